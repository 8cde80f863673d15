-- Contracts of the functions that the law reaches, written by wip/xprint.py of this repo.
import Derived.Test.YthehhncokikgcaaPFnExactPartCoefsx0
import Derived.Test.YthehhncokikgcaaPFnExactPartCoefsx1
import Derived.Test.YthehhncokikgcaaPFnExactPartCoefsx7
import Derived.Test.YthehhncokikgcaaPFnExactPartCoefsx11
namespace Go.Proofs.Ythehhncokikgcaa.PFnExactPartCoefs
open Go.RowKit Go.Proofs.YthehhncokikgcaaW.PrintWords Go.Proofs.YthehhncokikgcaaW.PrintLast Go.Proofs.YthehhncokikgcaaW.PrintMore
attribute [local go_sem] max2_int min2_int max_two min_two max_three min_three max_four min_four   -- for this text's walks alone
set_option linter.unusedVariables false
set_option linter.unusedSimpArgs false

/-! ### laws_eqInt64SS: function 81 -/
def laws_eqInt64SS.l0 : Nat → List (List Int) → List (List Int) → Int → Option (Bool)
 | 0, _, _, _ => none
 | k + 1, x0, x1, x5 => if x5 < (x0.length : Int) then (if 0 ≤ x5 then (if x5 < (x1.length : Int) then ((laws_eqInt64S.f k (rd_L1 x0 x5) (rd_L1 x1 x5)).bind fun t427 => (if t427 = true then (laws_eqInt64SS.l0 k x0 x1 (wrap64 (x5 + 1))) else (none))) else (none)) else (none)) else (some true)
def laws_eqInt64SS.f (k : Nat) (l0 : List (List Int)) (l1 : List (List Int)) : Option (Bool) := if (l0.length : Int) = (l1.length : Int) then (laws_eqInt64SS.l0 k l0 l1 0) else (none)
theorem laws_eqInt64SS.mono_l : ∀ k, (∀ y0 y1 y2, LeO (laws_eqInt64SS.l0 k y0 y1 y2) (laws_eqInt64SS.l0 (k + 1) y0 y1 y2))
 | 0 => fun _ _ _ r h => by simp [laws_eqInt64SS.l0] at h
 | k + 1 => by
  have ih0 := laws_eqInt64SS.mono_l k
  ·intro y0 y1 y2
   unfold laws_eqInt64SS.l0
   repeat' first
   | (with_reducible exact ih0 _ _ _)
   | (with_reducible exact laws_eqInt64S.mono _ _ _)
   | (with_reducible exact LeO.refl _)
   | (with_reducible exact LeO.none _)
   | (with_reducible refine LeO.ite ?_ ?_)
   | (with_reducible refine LeO.bind ?_ (fun _ => ?_))
   | exact ih0 _ _ _
   | exact laws_eqInt64S.mono _ _ _
   | exact LeO.none _
   | refine LeO.ite ?_ ?_
   | refine LeO.bind ?_ (fun _ => ?_)
theorem laws_eqInt64SS.mono : ∀ a0 a1 k, LeO (laws_eqInt64SS.f k a0 a1) (laws_eqInt64SS.f (k + 1) a0 a1) := by
 intro a0 a1 k
 have ih0 := laws_eqInt64SS.mono_l k
 unfold laws_eqInt64SS.f
 repeat' first
   | (with_reducible exact ih0 _ _ _)
   | (with_reducible exact laws_eqInt64S.mono _ _ _)
   | (with_reducible exact LeO.refl _)
   | (with_reducible exact LeO.none _)
   | (with_reducible refine LeO.ite ?_ ?_)
   | (with_reducible refine LeO.bind ?_ (fun _ => ?_))
   | exact ih0 _ _ _
   | exact laws_eqInt64S.mono _ _ _
   | exact LeO.none _
   | refine LeO.ite ?_ ?_
   | refine LeO.bind ?_ (fun _ => ?_)
set_option maxHeartbeats 8000000 in
set_option maxRecDepth 100000 in
theorem laws_eqInt64SS.calls (k : Nat) (A0 : Option Addr) (c0 : Nat) (l0 : List (List Int)) (A1 : Option Addr) (c1 : Nat) (l1 : List (List Int)) (r : Bool) (w : World) (hr0 : Kd.C (Kd.slice 2 (Kd.int .i64)) w A0 l0.length l0) (hc0 : l0.length ≤ c0) (hr1 : Kd.C (Kd.slice 2 (Kd.int .i64)) w A1 l1.length l1) (hc1 : l1.length ≤ c1) (h : laws_eqInt64SS.f k l0 l1 = some r) :
  Calls Try.prog 81 #[.slice A0 l0.length c0, .slice A1 l1.length c1] w fun e w' => e = .returned (.bool r) ∧ Drawn0 w w' := by
 have HR0 := Aside0.mk hr0
 have HC0 := Aside0.mk hc0
 clear hr0 hc0
 have HR1 := Aside0.mk hr1
 have HC1 := Aside0.mk hc1
 clear hr1 hc1
 have H : (if (l0.length : Int) = (l1.length : Int) then (laws_eqInt64SS.l0 k l0 l1 0) else (none)) = some r := h
 clear h
 by_cases c3 : (l0.length : Int) = (l1.length : Int)
 ·rw [if_pos c3] at H
  have c3b0 : ((l0.length : Int) == (l1.length : Int)) = true := beq_iff_eq.mpr c3
  have c3b1 : ((l0.length : Int) != (l1.length : Int)) = false := bne_eq_false_iff_eq.mpr c3
  have c3b2 : (l0.length == l1.length) = true := by first | simpa using c3 | (simp at c3 ⊢; omega)
  clear c3
  have H' := Aside0.mk H
  clear H
  go_enter Try.func81, Try.ntmps81
  go_wp2
  repeat (go_quiet (fail); try go_wp2)
  go_loopg [5] k (fun kq v5 w' => ∃ (x5_1 : Int), v5 = .int .i64 x5_1 ∧ Aside0 (laws_eqInt64SS.l0 kq l0 l1 x5_1 = some r) ∧ Aside0 (kq ≤ k) ∧ Drawn0 w w')
  case atStart => exact ⟨(0), (by first | rfl | (simp; done) | (simp [*]; done)), H', ⟨Nat.le_refl _⟩, by repeat (first | exact Drawn0.refl _ | apply Drawn0.step)⟩
  case round =>
   clear H'
   try clear c1
   try clear p2
   try clear c3
   try clear c3b0
   try clear c3b1
   try clear c3b2
   obtain ⟨x5_1, rfl, HA, HK1, ⟨m1, rfl⟩⟩ := hrel
   cases gk with
   | zero => exact absurd HA.out (by simp [laws_eqInt64SS.l0])
   | succ k1 =>
    have H := HA.out
    clear HA
    simp only [laws_eqInt64SS.l0] at H
    by_cases c4 : x5_1 < (l0.length : Int)
    ·rw [if_pos c4] at H
     have c4b0 : decide (x5_1 < (l0.length : Int)) = true := decide_eq_true c4
     clear c4
     by_cases c5 : 0 ≤ x5_1
     ·rw [if_pos c5] at H
      have c5b0 : decide (0 ≤ x5_1) = true := decide_eq_true c5
      clear c5
      by_cases c6 : x5_1 < (l1.length : Int)
      ·rw [if_pos c6] at H
       have c6b0 : decide (x5_1 < (l1.length : Int)) = true := decide_eq_true c6
       clear c6
       replace H := Option.bind_eq_some_iff.mp H
       obtain ⟨t427, A70, H⟩ := H
       have A7 := Aside0.mk A70
       clear A70
       by_cases c8 : t427 = true
       ·subst c8
        replace H : (laws_eqInt64SS.l0 k1 l0 l1 (wrap64 (x5_1 + 1))) = some r := by rw [if_pos rfl] at H; exact H
        have H' := Aside0.mk H
        clear H
        have p425 : 0 ≤ (x5_1 : Int) := dta
        have q425 : x5_1 < (l0.length : Int) := dta
        obtain ⟨ad425, A425_0, c425_0, e425, hx425_0, hl425_0, hi425_0⟩ := at_L1 HR0.out x5_1 p425 q425
        cases e425
        have HR425_0 := Aside0.mk hi425_0
        have HC425_0 := Aside0.mk hl425_0
        clear hi425_0 hl425_0
        replace p425 := eq_true p425
        replace q425 := eq_true q425
        have p426 : 0 ≤ (x5_1 : Int) := dta
        have q426 : x5_1 < (l1.length : Int) := dta
        obtain ⟨ad426, A426_0, c426_0, e426, hx426_0, hl426_0, hi426_0⟩ := at_L1 HR1.out x5_1 p426 q426
        cases e426
        have HR426_0 := Aside0.mk hi426_0
        have HC426_0 := Aside0.mk hl426_0
        clear hi426_0 hl426_0
        replace p426 := eq_true p426
        replace q426 := eq_true q426
        go_wp2
        repeat (go_quiet (first | (go_at_call 45; (with_reducible refine (laws_eqInt64S.calls k1 _ _ (rd_L1 l0 x5_1) _ _ (rd_L1 l1 x5_1) true _ ?side1 ?side2 ?side3 ?side4 A7.out).mono ?_); (case side1 => repeat (first | exact HR425_0.out | (with_reducible refine Kd.C_alloc ?_ _) | (with_reducible refine Kd.C_drewN ?_ _) | (with_reducible refine Kd.C_drew ?_))); (case side2 => exact HC425_0.out); (case side3 => repeat (first | exact HR426_0.out | (with_reducible refine Kd.C_alloc ?_ _) | (with_reducible refine Kd.C_drewN ?_ _) | (with_reducible refine Kd.C_drew ?_))); (case side4 => exact HC426_0.out); rintro e w' ⟨rfl, ⟨nd, rfl⟩⟩; (try first | exact ⟨rfl, _, World.drewN_drewN _ _ _⟩ | exact ⟨rfl, _, Eq.trans (World.drewN_drewN _ _ _) (congrArg (World.drewN _) (Nat.add_assoc _ _ _))⟩))); try go_wp2)
        go_roundg k1
        case measure => have := HK1.out; omega
        case rel => exact ⟨(wrap64 (x5_1 + 1)), (by first | rfl | (simp; done) | (simp [*]; done)), H', ⟨by have := HK1.out; omega⟩, by repeat (first | exact Drawn0.refl _ | apply Drawn0.step)⟩
       ·replace c8 := Bool.eq_false_iff.mpr c8
        subst c8
        replace H : (none) = some r := by rw [if_neg (show ¬ (false = true) by decide)] at H; exact H
        exact absurd H (by simp)
      ·rw [if_neg c6] at H
       exact absurd H (by simp)
     ·rw [if_neg c5] at H
      exact absurd H (by simp)
    ·rw [if_neg c4] at H
     have c4b0 : decide (x5_1 < (l0.length : Int)) = false := decide_eq_false c4
     clear c4
     obtain rfl := Option.some.inj H
     go_wp2
     repeat (go_quiet (fail); try go_wp2)
     go_ret
     exact ⟨by first | rfl | (simp; done) | (simp [*]; done), by repeat (first | exact Drawn0.refl _ | apply Drawn0.step)⟩
 ·rw [if_neg c3] at H
  exact absurd H (by simp)

/-! ### laws_eqPart: function 32 -/
def laws_eqPart.f (k : Nat) (a0_0 : Int) (a0_1 : Int) (a0_2 : Int) (a0_3 : Int) (a0_4 : Int) (a0_5 : Int) (l0_6 : List Int) (l0_7 : List Int) (l0_8 : List (List Int)) (a1_0 : Int) (a1_1 : Int) (a1_2 : Int) (a1_3 : Int) (a1_4 : Int) (a1_5 : Int) (l1_6 : List Int) (l1_7 : List Int) (l1_8 : List (List Int)) : Option (Bool) := if a0_0 = a1_0 then (if a0_1 = a1_1 then (if a0_2 = a1_2 then (if a0_3 = a1_3 then (if a0_4 = a1_4 then (if a0_5 = a1_5 then ((laws_eqInt64S.f k l0_6 l1_6).bind fun t430 => (if t430 = true then ((laws_eqInt64S.f k l0_7 l1_7).bind fun t431 => (if t431 = true then ((laws_eqInt64SS.f k l0_8 l1_8).bind fun t432 => (if t432 = true then (some true) else (none))) else (none))) else (none))) else (none)) else (none)) else (none)) else (none)) else (none)) else (none)
theorem laws_eqPart.mono : ∀ a0 a1 a2 a3 a4 a5 a6 a7 a8 a9 a10 a11 a12 a13 a14 a15 a16 a17 k, LeO (laws_eqPart.f k a0 a1 a2 a3 a4 a5 a6 a7 a8 a9 a10 a11 a12 a13 a14 a15 a16 a17) (laws_eqPart.f (k + 1) a0 a1 a2 a3 a4 a5 a6 a7 a8 a9 a10 a11 a12 a13 a14 a15 a16 a17) := by
 intro a0 a1 a2 a3 a4 a5 a6 a7 a8 a9 a10 a11 a12 a13 a14 a15 a16 a17 k
 unfold laws_eqPart.f
 repeat' first
   | (with_reducible exact laws_eqInt64S.mono _ _ _)
   | (with_reducible exact laws_eqInt64SS.mono _ _ _)
   | (with_reducible exact LeO.refl _)
   | (with_reducible exact LeO.none _)
   | (with_reducible refine LeO.ite ?_ ?_)
   | (with_reducible refine LeO.bind ?_ (fun _ => ?_))
   | exact laws_eqInt64S.mono _ _ _
   | exact laws_eqInt64SS.mono _ _ _
   | exact LeO.none _
   | refine LeO.ite ?_ ?_
   | refine LeO.bind ?_ (fun _ => ?_)
set_option maxHeartbeats 8000000 in
set_option maxRecDepth 100000 in
theorem laws_eqPart.calls (k : Nat) (a0_0 : Int) (a0_1 : Int) (a0_2 : Int) (a0_3 : Int) (a0_4 : Int) (a0_5 : Int) (A0_6 : Option Addr) (c0_6 : Nat) (l0_6 : List Int) (A0_7 : Option Addr) (c0_7 : Nat) (l0_7 : List Int) (A0_8 : Option Addr) (c0_8 : Nat) (l0_8 : List (List Int)) (a1_0 : Int) (a1_1 : Int) (a1_2 : Int) (a1_3 : Int) (a1_4 : Int) (a1_5 : Int) (A1_6 : Option Addr) (c1_6 : Nat) (l1_6 : List Int) (A1_7 : Option Addr) (c1_7 : Nat) (l1_7 : List Int) (A1_8 : Option Addr) (c1_8 : Nat) (l1_8 : List (List Int)) (r : Bool) (w : World) (hr0_6 : Kd.C (Kd.int .i64) w A0_6 l0_6.length l0_6) (hc0_6 : l0_6.length ≤ c0_6) (hr0_7 : Kd.C (Kd.int .i64) w A0_7 l0_7.length l0_7) (hc0_7 : l0_7.length ≤ c0_7) (hr0_8 : Kd.C (Kd.slice 2 (Kd.int .i64)) w A0_8 l0_8.length l0_8) (hc0_8 : l0_8.length ≤ c0_8) (hr1_6 : Kd.C (Kd.int .i64) w A1_6 l1_6.length l1_6) (hc1_6 : l1_6.length ≤ c1_6) (hr1_7 : Kd.C (Kd.int .i64) w A1_7 l1_7.length l1_7) (hc1_7 : l1_7.length ≤ c1_7) (hr1_8 : Kd.C (Kd.slice 2 (Kd.int .i64)) w A1_8 l1_8.length l1_8) (hc1_8 : l1_8.length ≤ c1_8) (h : laws_eqPart.f k a0_0 a0_1 a0_2 a0_3 a0_4 a0_5 l0_6 l0_7 l0_8 a1_0 a1_1 a1_2 a1_3 a1_4 a1_5 l1_6 l1_7 l1_8 = some r) :
  Calls Try.prog 32 #[.agg #[.int .i64 a0_0, .int .i64 a0_1, .int .i64 a0_2, .int .i64 a0_3, .int .i64 a0_4, .int .i64 a0_5, .slice A0_6 l0_6.length c0_6, .slice A0_7 l0_7.length c0_7, .slice A0_8 l0_8.length c0_8], .agg #[.int .i64 a1_0, .int .i64 a1_1, .int .i64 a1_2, .int .i64 a1_3, .int .i64 a1_4, .int .i64 a1_5, .slice A1_6 l1_6.length c1_6, .slice A1_7 l1_7.length c1_7, .slice A1_8 l1_8.length c1_8]] w fun e w' => e = .returned (.bool r) ∧ Below w.heap.size w w' := by
 have hu47 := Try.underlying47
 have HR0_6 := Aside0.mk hr0_6
 have HC0_6 := Aside0.mk hc0_6
 clear hr0_6 hc0_6
 have HR0_7 := Aside0.mk hr0_7
 have HC0_7 := Aside0.mk hc0_7
 clear hr0_7 hc0_7
 have HR0_8 := Aside0.mk hr0_8
 have HC0_8 := Aside0.mk hc0_8
 clear hr0_8 hc0_8
 have HR1_6 := Aside0.mk hr1_6
 have HC1_6 := Aside0.mk hc1_6
 clear hr1_6 hc1_6
 have HR1_7 := Aside0.mk hr1_7
 have HC1_7 := Aside0.mk hc1_7
 clear hr1_7 hc1_7
 have HR1_8 := Aside0.mk hr1_8
 have HC1_8 := Aside0.mk hc1_8
 clear hr1_8 hc1_8
 have HB := Aside0.mk (Below.refl w.heap.size w)
 have H : (if a0_0 = a1_0 then (if a0_1 = a1_1 then (if a0_2 = a1_2 then (if a0_3 = a1_3 then (if a0_4 = a1_4 then (if a0_5 = a1_5 then ((laws_eqInt64S.f k l0_6 l1_6).bind fun t430 => (if t430 = true then ((laws_eqInt64S.f k l0_7 l1_7).bind fun t431 => (if t431 = true then ((laws_eqInt64SS.f k l0_8 l1_8).bind fun t432 => (if t432 = true then (some true) else (none))) else (none))) else (none))) else (none)) else (none)) else (none)) else (none)) else (none)) else (none)) = some r := h
 clear h
 by_cases c3 : a0_0 = a1_0
 ·rw [if_pos c3] at H
  have c3b0 : (a0_0 == a1_0) = true := beq_iff_eq.mpr c3
  have c3b1 : (a0_0 != a1_0) = false := bne_eq_false_iff_eq.mpr c3
  clear c3
  by_cases c4 : a0_1 = a1_1
  ·rw [if_pos c4] at H
   have c4b0 : (a0_1 == a1_1) = true := beq_iff_eq.mpr c4
   have c4b1 : (a0_1 != a1_1) = false := bne_eq_false_iff_eq.mpr c4
   clear c4
   by_cases c5 : a0_2 = a1_2
   ·rw [if_pos c5] at H
    have c5b0 : (a0_2 == a1_2) = true := beq_iff_eq.mpr c5
    have c5b1 : (a0_2 != a1_2) = false := bne_eq_false_iff_eq.mpr c5
    clear c5
    by_cases c6 : a0_3 = a1_3
    ·rw [if_pos c6] at H
     have c6b0 : (a0_3 == a1_3) = true := beq_iff_eq.mpr c6
     have c6b1 : (a0_3 != a1_3) = false := bne_eq_false_iff_eq.mpr c6
     clear c6
     by_cases c7 : a0_4 = a1_4
     ·rw [if_pos c7] at H
      have c7b0 : (a0_4 == a1_4) = true := beq_iff_eq.mpr c7
      have c7b1 : (a0_4 != a1_4) = false := bne_eq_false_iff_eq.mpr c7
      clear c7
      by_cases c8 : a0_5 = a1_5
      ·rw [if_pos c8] at H
       have c8b0 : (a0_5 == a1_5) = true := beq_iff_eq.mpr c8
       have c8b1 : (a0_5 != a1_5) = false := bne_eq_false_iff_eq.mpr c8
       clear c8
       replace H := Option.bind_eq_some_iff.mp H
       obtain ⟨t430, A90, H⟩ := H
       have A9 := Aside0.mk A90
       clear A90
       by_cases c10 : t430 = true
       ·subst c10
        replace H : ((laws_eqInt64S.f k l0_7 l1_7).bind fun t431 => (if t431 = true then ((laws_eqInt64SS.f k l0_8 l1_8).bind fun t432 => (if t432 = true then (some true) else (none))) else (none))) = some r := by rw [if_pos rfl] at H; exact H
        replace H := Option.bind_eq_some_iff.mp H
        obtain ⟨t431, A110, H⟩ := H
        have A11 := Aside0.mk A110
        clear A110
        by_cases c12 : t431 = true
        ·subst c12
         replace H : ((laws_eqInt64SS.f k l0_8 l1_8).bind fun t432 => (if t432 = true then (some true) else (none))) = some r := by rw [if_pos rfl] at H; exact H
         replace H := Option.bind_eq_some_iff.mp H
         obtain ⟨t432, A130, H⟩ := H
         have A13 := Aside0.mk A130
         clear A130
         by_cases c14 : t432 = true
         ·subst c14
          replace H : (some true) = some r := by rw [if_pos rfl] at H; exact H
          obtain rfl := Option.some.inj H
          go_enter Try.func32, Try.ntmps32
          go_wp2_with (first | ((with_reducible refine gate_dst (N := 2) rfl ?_); refine box_event ?hg (N := 2) ?hd (cs := #[.int .i64 a0_0, .int .i64 a0_1, .int .i64 a0_2, .int .i64 a0_3, .int .i64 a0_4, .int .i64 a0_5, .slice A0_6 l0_6.length c0_6, .slice A0_7 l0_7.length c0_7, .slice A0_8 l0_8.length c0_8]) (t := 47) ?hr ?_; (case hd => rfl); (case hg => rfl); (case hr => first | (go_simp; done) | (go_simp; rfl)); intro gb428 hg w15 hbox hb; have n0_ := Aside0.mk (below_step bnw hb); have n1_ := Aside0.mk (hbox); have n2_ := Aside0.mk ((by rw [hg]; exact (below_size bnw) : w.heap.size ≤ gb428)); have n3_ := Aside0.mk ((by rw [hg]; exact (below_size bnw) : w.heap.size ≤ gb428)); clear HB; have HB := n0_; have BK428 := n1_; have GW428 := n2_; have GE428 := n3_; clear n0_ n1_ n2_ n3_; clear hb hbox hg) | ((with_reducible refine gate_dst (N := 3) rfl ?_); refine box_event ?hg (N := 3) ?hd (cs := #[.int .i64 a1_0, .int .i64 a1_1, .int .i64 a1_2, .int .i64 a1_3, .int .i64 a1_4, .int .i64 a1_5, .slice A1_6 l1_6.length c1_6, .slice A1_7 l1_7.length c1_7, .slice A1_8 l1_8.length c1_8]) (t := 47) ?hr ?_; (case hd => rfl); (case hg => rfl); (case hr => first | (go_simp; done) | (go_simp; rfl)); intro gb429 hg w16 hbox hb; have n0_ := Aside0.mk (blk_below (g := gb428) (o := .cells #[.int .i64 a0_0, .int .i64 a0_1, .int .i64 a0_2, .int .i64 a0_3, .int .i64 a0_4, .int .i64 a0_5, .slice A0_6 l0_6.length c0_6, .slice A0_7 l0_7.length c0_7, .slice A0_8 l0_8.length c0_8] 47 (0, 0)) (bpl BK428.out) hb); have n1_ := Aside0.mk (below_step (by repeat (first | (with_reducible first | exact HB.out | apply below_alloc | apply pw_below_drewN | apply below_drew1 | refine below_set ?_ GE428.out) | exact HB.out)) hb); have n2_ := Aside0.mk (hbox); have n3_ := Aside0.mk ((by rw [hg]; exact (below_size (by repeat (first | (with_reducible first | exact HB.out | apply below_alloc | apply pw_below_drewN | apply below_drew1 | refine below_set ?_ GE428.out) | exact HB.out))) : w.heap.size ≤ gb429)); have n4_ := Aside0.mk ((by rw [hg]; exact (below_size (by repeat (first | (with_reducible first | exact HB.out | apply below_alloc | apply pw_below_drewN | apply below_drew1 | refine below_set ?_ GE428.out) | exact HB.out))) : w.heap.size ≤ gb429)); have n5_ := Aside0.mk ((by rw [hg]; exact Nat.ne_of_lt (blk_lt (g := gb428) (o := .cells #[.int .i64 a0_0, .int .i64 a0_1, .int .i64 a0_2, .int .i64 a0_3, .int .i64 a0_4, .int .i64 a0_5, .slice A0_6 l0_6.length c0_6, .slice A0_7 l0_7.length c0_7, .slice A0_8 l0_8.length c0_8] 47 (0, 0)) (bpl BK428.out)) : gb428 ≠ gb429)); have n6_ := Aside0.mk ((by rw [hg]; exact Nat.ne_of_gt (blk_lt (g := gb428) (o := .cells #[.int .i64 a0_0, .int .i64 a0_1, .int .i64 a0_2, .int .i64 a0_3, .int .i64 a0_4, .int .i64 a0_5, .slice A0_6 l0_6.length c0_6, .slice A0_7 l0_7.length c0_7, .slice A0_8 l0_8.length c0_8] 47 (0, 0)) (bpl BK428.out)) : gb429 ≠ gb428)); clear BK428; clear HB; have BK428 := n0_; have HB := n1_; have BK429 := n2_; have GW429 := n3_; have GE429 := n4_; have NB428_429 := n5_; have NB429_428 := n6_; clear n0_ n1_ n2_ n3_ n4_ n5_ n6_; clear hb hbox hg; have hnb17 := NB428_429.out; have hnc17 := NB429_428.out; have hcz18_0 : w16.cell? ⟨gb428, 0, none⟩ = some (.int .i64 a0_0) := (blk_cell BK428.out 0).trans rfl; have hcz18_1 : w16.cell? ⟨gb428, 1, none⟩ = some (.int .i64 a0_1) := (blk_cell BK428.out 1).trans rfl; have hcz18_2 : w16.cell? ⟨gb428, 2, none⟩ = some (.int .i64 a0_2) := (blk_cell BK428.out 2).trans rfl; have hcz18_3 : w16.cell? ⟨gb428, 3, none⟩ = some (.int .i64 a0_3) := (blk_cell BK428.out 3).trans rfl; have hcz18_4 : w16.cell? ⟨gb428, 4, none⟩ = some (.int .i64 a0_4) := (blk_cell BK428.out 4).trans rfl; have hcz18_5 : w16.cell? ⟨gb428, 5, none⟩ = some (.int .i64 a0_5) := (blk_cell BK428.out 5).trans rfl; have hcz18_6 : w16.cell? ⟨gb428, 6, none⟩ = some (.slice A0_6 l0_6.length c0_6) := (blk_cell BK428.out 6).trans rfl; have hcz18_7 : w16.cell? ⟨gb428, 7, none⟩ = some (.slice A0_7 l0_7.length c0_7) := (blk_cell BK428.out 7).trans rfl; have hcz18_8 : w16.cell? ⟨gb428, 8, none⟩ = some (.slice A0_8 l0_8.length c0_8) := (blk_cell BK428.out 8).trans rfl; have hfz18_0 := blk_frozen BK428.out 0; have hfz18_1 := blk_frozen BK428.out 1; have hfz18_2 := blk_frozen BK428.out 2; have hfz18_3 := blk_frozen BK428.out 3; have hfz18_4 := blk_frozen BK428.out 4; have hfz18_5 := blk_frozen BK428.out 5; have hfz18_6 := blk_frozen BK428.out 6; have hfz18_7 := blk_frozen BK428.out 7; have hfz18_8 := blk_frozen BK428.out 8; have hcz19_0 : w16.cell? ⟨gb429, 0, none⟩ = some (.int .i64 a1_0) := (blk_cell BK429.out 0).trans rfl; have hcz19_1 : w16.cell? ⟨gb429, 1, none⟩ = some (.int .i64 a1_1) := (blk_cell BK429.out 1).trans rfl; have hcz19_2 : w16.cell? ⟨gb429, 2, none⟩ = some (.int .i64 a1_2) := (blk_cell BK429.out 2).trans rfl; have hcz19_3 : w16.cell? ⟨gb429, 3, none⟩ = some (.int .i64 a1_3) := (blk_cell BK429.out 3).trans rfl; have hcz19_4 : w16.cell? ⟨gb429, 4, none⟩ = some (.int .i64 a1_4) := (blk_cell BK429.out 4).trans rfl; have hcz19_5 : w16.cell? ⟨gb429, 5, none⟩ = some (.int .i64 a1_5) := (blk_cell BK429.out 5).trans rfl; have hcz19_6 : w16.cell? ⟨gb429, 6, none⟩ = some (.slice A1_6 l1_6.length c1_6) := (blk_cell BK429.out 6).trans rfl; have hcz19_7 : w16.cell? ⟨gb429, 7, none⟩ = some (.slice A1_7 l1_7.length c1_7) := (blk_cell BK429.out 7).trans rfl; have hcz19_8 : w16.cell? ⟨gb429, 8, none⟩ = some (.slice A1_8 l1_8.length c1_8) := (blk_cell BK429.out 8).trans rfl; have hfz19_0 := blk_frozen BK429.out 0; have hfz19_1 := blk_frozen BK429.out 1; have hfz19_2 := blk_frozen BK429.out 2; have hfz19_3 := blk_frozen BK429.out 3; have hfz19_4 := blk_frozen BK429.out 4; have hfz19_5 := blk_frozen BK429.out 5; have hfz19_6 := blk_frozen BK429.out 6; have hfz19_7 := blk_frozen BK429.out 7; have hfz19_8 := blk_frozen BK429.out 8) | ((with_reducible refine gate_callee (f := 45) rfl ?_); refine goesL_ (some 39) rfl rfl Try.func45 (by kernel_rfl) rfl #[.slice A0_6 l0_6.length c0_6, .slice A1_6 l1_6.length c1_6] rfl arq ?_; (with_reducible refine (laws_eqInt64S.calls k _ _ l0_6 _ _ l1_6 true _ ?side1 ?side2 ?side3 ?side4 A9.out).mono ?_); (case side1 => repeat (first | exact (Kd.C_below HR0_6.out HB.out) | (with_reducible refine Kd.C_alloc ?_ _) | (with_reducible refine Kd.C_drewN ?_ _) | (with_reducible refine Kd.C_drew ?_))); (case side2 => exact HC0_6.out); (case side3 => repeat (first | exact (Kd.C_below HR1_6.out HB.out) | (with_reducible refine Kd.C_alloc ?_ _) | (with_reducible refine Kd.C_drewN ?_ _) | (with_reducible refine Kd.C_drew ?_))); (case side4 => exact HC1_6.out); rintro e w' ⟨rfl, ⟨nd, rfl⟩⟩; refine ⟨_, rfl, ?_⟩) | ((with_reducible refine gate_callee (f := 45) rfl ?_); refine goesL_ (some 45) rfl rfl Try.func45 (by kernel_rfl) rfl #[.slice A0_7 l0_7.length c0_7, .slice A1_7 l1_7.length c1_7] rfl arq ?_; (with_reducible refine (laws_eqInt64S.calls k _ _ l0_7 _ _ l1_7 true _ ?side1 ?side2 ?side3 ?side4 A11.out).mono ?_); (case side1 => repeat (first | exact (Kd.C_below HR0_7.out (by repeat (first | (with_reducible first | exact HB.out | apply below_alloc | apply pw_below_drewN | apply below_drew1 | refine below_set ?_ GE428.out | refine below_set ?_ GE429.out) | exact HB.out))) | (with_reducible refine Kd.C_alloc ?_ _) | (with_reducible refine Kd.C_drewN ?_ _) | (with_reducible refine Kd.C_drew ?_))); (case side2 => exact HC0_7.out); (case side3 => repeat (first | exact (Kd.C_below HR1_7.out (by repeat (first | (with_reducible first | exact HB.out | apply below_alloc | apply pw_below_drewN | apply below_drew1 | refine below_set ?_ GE428.out | refine below_set ?_ GE429.out) | exact HB.out))) | (with_reducible refine Kd.C_alloc ?_ _) | (with_reducible refine Kd.C_drewN ?_ _) | (with_reducible refine Kd.C_drew ?_))); (case side4 => exact HC1_7.out); rintro e w' ⟨rfl, ⟨nd, rfl⟩⟩; refine ⟨_, rfl, ?_⟩) | ((with_reducible refine gate_callee (f := 81) rfl ?_); refine goesL_ (some 51) rfl rfl Try.func81 (by kernel_rfl) rfl #[.slice A0_8 l0_8.length c0_8, .slice A1_8 l1_8.length c1_8] rfl arq ?_; (with_reducible refine (laws_eqInt64SS.calls k _ _ l0_8 _ _ l1_8 true _ ?side1 ?side2 ?side3 ?side4 A13.out).mono ?_); (case side1 => repeat (first | exact (Kd.C_below HR0_8.out (by repeat (first | (with_reducible first | exact HB.out | apply below_alloc | apply pw_below_drewN | apply below_drew1 | refine below_set ?_ GE428.out | refine below_set ?_ GE429.out) | exact HB.out))) | (with_reducible refine Kd.C_alloc ?_ _) | (with_reducible refine Kd.C_drewN ?_ _) | (with_reducible refine Kd.C_drew ?_))); (case side2 => exact HC0_8.out); (case side3 => repeat (first | exact (Kd.C_below HR1_8.out (by repeat (first | (with_reducible first | exact HB.out | apply below_alloc | apply pw_below_drewN | apply below_drew1 | refine below_set ?_ GE428.out | refine below_set ?_ GE429.out) | exact HB.out))) | (with_reducible refine Kd.C_alloc ?_ _) | (with_reducible refine Kd.C_drewN ?_ _) | (with_reducible refine Kd.C_drew ?_))); (case side4 => exact HC1_8.out); rintro e w' ⟨rfl, ⟨nd, rfl⟩⟩; refine ⟨_, rfl, ?_⟩))
          go_ret
          exact ⟨enq, by repeat (first | (with_reducible first | exact HB.out | apply below_alloc | apply pw_below_drewN | apply below_drew1 | refine below_set ?_ GE428.out | refine below_set ?_ GE429.out) | exact HB.out)⟩
         ·replace c14 := Bool.eq_false_iff.mpr c14
          subst c14
          replace H : (none) = some r := by rw [if_neg (show ¬ (false = true) by decide)] at H; exact H
          exact absurd H (by simp)
        ·replace c12 := Bool.eq_false_iff.mpr c12
         subst c12
         replace H : (none) = some r := by rw [if_neg (show ¬ (false = true) by decide)] at H; exact H
         exact absurd H (by simp)
       ·replace c10 := Bool.eq_false_iff.mpr c10
        subst c10
        replace H : (none) = some r := by rw [if_neg (show ¬ (false = true) by decide)] at H; exact H
        exact absurd H (by simp)
      ·rw [if_neg c8] at H
       exact absurd H (by simp)
     ·rw [if_neg c7] at H
      exact absurd H (by simp)
    ·rw [if_neg c6] at H
     exact absurd H (by simp)
   ·rw [if_neg c5] at H
    exact absurd H (by simp)
  ·rw [if_neg c4] at H
   exact absurd H (by simp)
 ·rw [if_neg c3] at H
  exact absurd H (by simp)

/-! ### laws_markInt64SS: function 82 -/
def laws_markInt64SS.l0 : Nat → List (List Int) → Int → Int → Option (Int × List (List Int))
  | 0, _, _, _ => none
  | k + 1, x0, x1, x5 => if x5 < (x0.length : Int) then (if 0 ≤ x5 then ((laws_markInt64S.f k (rd_L1 x0 x5) x1).bind fun bt => (laws_markInt64SS.l0 k (x0.set (x5 : Int).toNat bt.2) bt.1 (wrap64 (x5 + 1)))) else (none)) else (some (x1, x0))
def laws_markInt64SS.f (k : Nat) (l0 : List (List Int)) (a1 : Int) : Option (Int × List (List Int)) := laws_markInt64SS.l0 k l0 a1 0
theorem laws_markInt64SS.mono_l : ∀ k, (∀ y0 y1 y2, LeO (laws_markInt64SS.l0 k y0 y1 y2) (laws_markInt64SS.l0 (k + 1) y0 y1 y2))
  | 0 => fun _ _ _ r h => by simp [laws_markInt64SS.l0] at h
  | k + 1 => by
    have ih0 := laws_markInt64SS.mono_l k
    · intro y0 y1 y2
      unfold laws_markInt64SS.l0
      repeat' first
      | (with_reducible exact ih0 _ _ _)
      | (with_reducible exact laws_markInt64S.mono _ _ _)
      | (with_reducible exact LeO.refl _)
      | (with_reducible exact LeO.none _)
      | (with_reducible refine LeO.ite ?_ ?_)
      | (with_reducible refine LeO.bind ?_ (fun _ => ?_))
      | exact ih0 _ _ _
      | exact laws_markInt64S.mono _ _ _
      | exact LeO.none _
      | refine LeO.ite ?_ ?_
      | refine LeO.bind ?_ (fun _ => ?_)
theorem laws_markInt64SS.mono : ∀ a0 a1 k, LeO (laws_markInt64SS.f k a0 a1) (laws_markInt64SS.f (k + 1) a0 a1) := fun a0 a1 k => laws_markInt64SS.mono_l k a0 a1 0
set_option maxHeartbeats 8000000 in
set_option maxRecDepth 100000 in
theorem laws_markInt64SS.calls (k : Nat) (P0_ : Nat → Prop) (u9000_ : Value) (l0 : List (List Int)) (a1 : Int) (r1 : Int) (r2 : List (List Int)) (w0 w : World) (hB : Below w0.heap.size w0 w) (ho0 : Kd.S (Kd.slice 2 (Kd.int .i64)) 24 w w0.heap.size P0_ u9000_ l0) (h : laws_markInt64SS.f k l0 a1 = some (r1, r2)) :
    Calls Try.prog 82 #[u9000_, .int .i64 a1] w fun e w' => e = .returned (.int .i64 r1) ∧ Kd.S (Kd.slice 2 (Kd.int .i64)) 24 w' w0.heap.size (fun k_ => (P0_ k_ ∨ w.heap.size ≤ k_)) u9000_ r2 ∧ Below w0.heap.size w0 w' ∧ Kept w w' (fun k_ => P0_ k_) := by
  obtain ⟨A, c, rfl⟩ := Kd.S_slice ho0
  have HO0 := Aside0.mk (show Kd.S (Kd.slice 2 (Kd.int .i64)) 24 w w0.heap.size (fun k_ => (P0_ k_ ∨ w.heap.size ≤ k_)) (.slice A l0.length c) l0 from Kd.S_mono ho0 (fun k_ hk => (.inl hk)))
  have HK := Aside0.mk (Kept.refl w (fun k_ => P0_ k_))
  have HB := Aside0.mk hB
  have hn := (Kd.S_reads' ho0).2.2.2.1
  have H' : Aside0 (laws_markInt64SS.l0 k l0 a1 0 = some (r1, r2)) := ⟨h⟩
  clear hB ho0 h
  go_enter Try.func82, Try.ntmps82
  go_wp2
  go_loopg [1, 5] k (fun kq v1 v5 w' => ∃ (x0 : List (List Int)) (x1 x5 : Int), v1 = .int .i64 x1 ∧ v5 = .int .i64 x5 ∧ x0.length = l0.length ∧ Aside0 (laws_markInt64SS.l0 kq x0 x1 x5 = some (r1, r2)) ∧ Aside0 (Kd.S (Kd.slice 2 (Kd.int .i64)) 24 w' w0.heap.size (fun k_ => (P0_ k_ ∨ w.heap.size ≤ k_)) (.slice A l0.length c) x0) ∧ Aside0 (Below w0.heap.size w0 w') ∧ Aside0 (Kept w w' (fun k_ => P0_ k_)))
  case atStart => exact ⟨l0, a1, 0, rfl, rfl, rfl, H', HO0, HB, HK⟩
  case round =>
    clear H' HO0 HB HK
    obtain ⟨x0, x1, x5, rfl, rfl, hlen, HA, HO, HB, HK⟩ := hrel
    cases gk with
    | zero => exact absurd HA.out (by simp [laws_markInt64SS.l0])
    | succ k1 =>
      have H := HA.out
      clear HA
      simp only [laws_markInt64SS.l0] at H
      by_cases c6 : x5 < (x0.length : Int)
      · rw [if_pos c6] at H
        by_cases c7 : 0 ≤ x5
        · rw [if_pos c7] at H
          replace H := Option.bind_eq_some_iff.mp H
          obtain ⟨⟨t1, t2⟩, A80, H⟩ := H
          have A8 := Aside0.mk A80
          have HN := Aside0.mk H
          clear A80 H
          have c6' : x5 < (l0.length : Int) := by omega
          have c6b := decide_eq_true c6'
          obtain ⟨g, cap, eo, gb, gl, cl, HG⟩ := Kd.S_form HO.out (by omega)
          injection eo with ea en ec
          subst ea
          subst ec
          obtain ⟨oki, ce, hcl, hM, hcc, hfr, hoki, hH⟩ := Kd.S_elem HO.out [] x5 c7 c6'
          obtain ⟨ve, rfl, ge⟩ := hM
          have hx := hcc 0 _ rfl
          simp only [show ((Kd.slice 2 (Kd.int .i64))).sz = 1 from rfl, Nat.mul_one, Nat.add_zero] at hx
          have HC := Aside0.mk (laws_markInt64S.calls k1 oki ve (rd_L1 x0 x5) x1 t1 t2 w0 wr HB.out ge A8.out)
          have HH := Aside0.mk hH
          have HOK := Aside0.mk hoki
          have HLEN := Aside0.mk hlen
          clear hcl hcc hfr hoki hH ge gb gl HG hlen en
          go_wp2_with (first | ((with_reducible refine gate_callee (f := 46) rfl ?_); refine goesL_ (some 17) rfl rfl Try.func46 (by kernel_rfl) rfl #[ve, .int .i64 x1] rfl (by (try simp only [List.map_toArray, List.map_cons, List.map_nil]); first | done | rfl) ?_; refine HC.out.mono ?_; rintro e w' ⟨rfl, ho2, hb2, hk2⟩; refine ⟨_, rfl, ?_⟩; have HO2 := Aside0.mk ho2; have HB2 := Aside0.mk hb2; have HK2 := Aside0.mk hk2; clear ho2 hb2 hk2))
          have hsz := HK.out.1
          have HS := Kd.H_back (Kd.H_step (Kd.H_widen HH.out) (fun k_ _ hn_ hlt_ => HK2.out.2 k_ hlt_ (fun hk_ => hn_ (Or.inl hk_)))) (x' := t2) (Kd.M_row HO2.out) (fun k_ hk_ => hk_.elim (fun h_ => Or.inl h_) (fun h_ => Or.inr ⟨Or.inr (Nat.le_trans hsz h_), h_⟩))
          have HKK := HK.out.then_ HK2.out (fun k_ hk_ => (HOK.out k_ hk_).1)
          go_roundg k1
          case measure => omega
          case rel => exact ⟨x0.set x5.toNat t2, t1, wrap64 (x5 + 1), rfl, (by first | rfl | go_num | (unfold wrap64; congr 1; omega)), by simpa using HLEN.out, HN, ⟨HS⟩, HB2, ⟨HKK⟩⟩
        · rw [if_neg c7] at H
          exact absurd H (by simp)
      · rw [if_neg c6] at H
        have c6' : ¬ x5 < (l0.length : Int) := by omega
        simp only [Option.some.injEq, Prod.mk.injEq] at H
        obtain ⟨rfl, rfl⟩ := H
        clear hlen c6
        go_wp2
        go_ret
        exact ⟨rfl, HO.out, HB.out, HK.out⟩

/-! ### laws_markPart: function 33 -/
def laws_markPart.f (k : Nat) (a0_0 : Int) (a0_1 : Int) (a0_2 : Int) (a0_3 : Int) (a0_4 : Int) (a0_5 : Int) (l0_6 : List Int) (l0_7 : List Int) (l0_8 : List (List Int)) (a1 : Int) : Option (Int × List Int × List Int × List (List Int)) := (laws_markInt64S.f k l0_6 a1).bind fun t1 => (laws_markInt64S.f k l0_7 t1.1).bind fun t2 => (laws_markInt64SS.f k l0_8 t2.1).bind fun t3 => some (t3.1, t1.2, t2.2, t3.2)
theorem laws_markPart.mono : ∀ a0 a1 a2 a3 a4 a5 a6 a7 a8 a9 k, LeO (laws_markPart.f k a0 a1 a2 a3 a4 a5 a6 a7 a8 a9) (laws_markPart.f (k + 1) a0 a1 a2 a3 a4 a5 a6 a7 a8 a9) := by
  intro a0 a1 a2 a3 a4 a5 a6 a7 a8 a9 k
  unfold laws_markPart.f
  refine LeO.bind (laws_markInt64S.mono _ _ _) (fun _ => ?_)
  refine LeO.bind (laws_markInt64S.mono _ _ _) (fun _ => ?_)
  refine LeO.bind (laws_markInt64SS.mono _ _ _) (fun _ => ?_)
  exact LeO.refl _
set_option maxHeartbeats 8000000 in
set_option maxRecDepth 100000 in
theorem laws_markPart.calls (k : Nat) (P6_ P7_ P8_ : Nat → Prop) (u6_ u7_ u8_ : Value) (a0_0 : Int) (a0_1 : Int) (a0_2 : Int) (a0_3 : Int) (a0_4 : Int) (a0_5 : Int) (l0_6 : List Int) (l0_7 : List Int) (l0_8 : List (List Int)) (a1 : Int) (r1 : Int) (r2 : List Int) (r3 : List Int) (r4 : List (List Int)) (w0 w : World) (hB : Below w0.heap.size w0 w) (ho6 : Kd.R (Kd.int .i64) 2 w w0.heap.size P6_ u6_ l0_6) (ho7 : Kd.R (Kd.int .i64) 2 w w0.heap.size P7_ u7_ l0_7) (ho8 : Kd.S (Kd.slice 2 (Kd.int .i64)) 24 w w0.heap.size P8_ u8_ l0_8) (h6_7 : ∀ k_, P6_ k_ → ¬ P7_ k_) (h6_8 : ∀ k_, P6_ k_ → ¬ P8_ k_) (h7_8 : ∀ k_, P7_ k_ → ¬ P8_ k_) (h : laws_markPart.f k a0_0 a0_1 a0_2 a0_3 a0_4 a0_5 l0_6 l0_7 l0_8 a1 = some (r1, r2, r3, r4)) :
    Calls Try.prog 33 #[.agg #[.int .i64 a0_0, .int .i64 a0_1, .int .i64 a0_2, .int .i64 a0_3, .int .i64 a0_4, .int .i64 a0_5, u6_, u7_, u8_], .int .i64 a1] w fun e w' => e = .returned (.int .i64 r1) ∧ Kd.R (Kd.int .i64) 2 w' w0.heap.size (fun k_ => P6_ k_ ∨ w.heap.size ≤ k_) u6_ r2 ∧ Kd.R (Kd.int .i64) 2 w' w0.heap.size (fun k_ => P7_ k_ ∨ w.heap.size ≤ k_) u7_ r3 ∧ Kd.S (Kd.slice 2 (Kd.int .i64)) 24 w' w0.heap.size (fun k_ => P8_ k_ ∨ w.heap.size ≤ k_) u8_ r4 ∧ Below w0.heap.size w0 w' ∧ Kept w w' (fun k_ => P6_ k_ ∨ P7_ k_ ∨ P8_ k_) := by
  have hu47 := Try.underlying47
  unfold laws_markPart.f at h
  obtain ⟨⟨m1, l1⟩, A1_, h⟩ := Option.bind_eq_some_iff.mp h
  have HA1 := Aside0.mk A1_
  clear A1_
  obtain ⟨⟨m2, l2⟩, A2_, h⟩ := Option.bind_eq_some_iff.mp h
  have HA2 := Aside0.mk A2_
  clear A2_
  obtain ⟨⟨m3, l3⟩, A3_, h⟩ := Option.bind_eq_some_iff.mp h
  have HA3 := Aside0.mk A3_
  clear A3_
  simp only [Option.some.injEq, Prod.mk.injEq] at h
  obtain ⟨rfl, rfl, rfl, rfl⟩ := h
  have b6 := Kd.R_mono (ok' := fun k_ => P6_ k_ ∧ k_ < w.heap.size) (Kd.R_bound ho6) (fun _ hk => ⟨hk.1, hk.2.2.1⟩)
  obtain ⟨A6, c6, rfl⟩ := Kd.R_slice ho6
  have HO6 := Aside0.mk b6
  clear b6 ho6
  have b7 := Kd.R_mono (ok' := fun k_ => P7_ k_ ∧ k_ < w.heap.size) (Kd.R_bound ho7) (fun _ hk => ⟨hk.1, hk.2.2.1⟩)
  obtain ⟨A7, c7, rfl⟩ := Kd.R_slice ho7
  have HO7 := Aside0.mk b7
  clear b7 ho7
  have b8 := Kd.S_mono (ok' := fun k_ => P8_ k_ ∧ k_ < w.heap.size) (Kd.S_bound ho8) (fun _ hk => ⟨hk.1, hk.2.2.1⟩)
  obtain ⟨A8, c8, rfl⟩ := Kd.S_slice ho8
  have HO8 := Aside0.mk b8
  clear b8 ho8
  have HP6_7 := Aside0.mk h6_7
  clear h6_7
  have HP6_8 := Aside0.mk h6_8
  clear h6_8
  have HP7_8 := Aside0.mk h7_8
  clear h7_8
  have HB := Aside0.mk hB
  clear hB
  go_enter Try.func33, Try.ntmps33
  go_wp2_with (first | ((with_reducible refine gate_dst (N := 2) rfl ?_); refine box_event ?hg (N := 2) ?hd (cs := #[.int .i64 a0_0, .int .i64 a0_1, .int .i64 a0_2, .int .i64 a0_3, .int .i64 a0_4, .int .i64 a0_5, .slice A6 l0_6.length c6, .slice A7 l0_7.length c7, .slice A8 l0_8.length c8]) (t := 47) ?hr ?_; (case hd => rfl); (case hg => rfl); (case hr => first | (go_simp; done) | (go_simp; rfl)); intro gb hg w5 hbox hb; have n6 := Aside0.mk (Kd.R_below HO6.out hb); have n7 := Aside0.mk (Kd.R_below HO7.out hb); have n8 := Aside0.mk (Kd.S_below HO8.out hb); have n_b := Aside0.mk (below_step HB.out hb); have HK := Aside0.mk (Kept.below (S := (fun k_ => P6_ k_ ∨ P7_ k_ ∨ P8_ k_)) (Kept.refl w _) hb); have BK := Aside0.mk hbox; have HG := Aside0.mk hg; clear HO6 HO7 HO8 HB hb hbox hg; have HO6 := n6; have HO7 := n7; have HO8 := n8; have HB := n_b; clear n6 n7 n8 n_b; have hc0 : w5.cell? ⟨gb, 0, none⟩ = some (.int .i64 a0_0) := (blk_cell BK.out 0).trans rfl; have hc1 : w5.cell? ⟨gb, 1, none⟩ = some (.int .i64 a0_1) := (blk_cell BK.out 1).trans rfl; have hc2 : w5.cell? ⟨gb, 2, none⟩ = some (.int .i64 a0_2) := (blk_cell BK.out 2).trans rfl; have hc3 : w5.cell? ⟨gb, 3, none⟩ = some (.int .i64 a0_3) := (blk_cell BK.out 3).trans rfl; have hc4 : w5.cell? ⟨gb, 4, none⟩ = some (.int .i64 a0_4) := (blk_cell BK.out 4).trans rfl; have hc5 : w5.cell? ⟨gb, 5, none⟩ = some (.int .i64 a0_5) := (blk_cell BK.out 5).trans rfl; have hc6 : w5.cell? ⟨gb, 6, none⟩ = some (.slice A6 l0_6.length c6) := (blk_cell BK.out 6).trans rfl; have hc7 : w5.cell? ⟨gb, 7, none⟩ = some (.slice A7 l0_7.length c7) := (blk_cell BK.out 7).trans rfl; have hc8 : w5.cell? ⟨gb, 8, none⟩ = some (.slice A8 l0_8.length c8) := (blk_cell BK.out 8).trans rfl; have hf0 := blk_frozen BK.out 0; have hf1 := blk_frozen BK.out 1; have hf2 := blk_frozen BK.out 2; have hf3 := blk_frozen BK.out 3; have hf4 := blk_frozen BK.out 4; have hf5 := blk_frozen BK.out 5; have hf6 := blk_frozen BK.out 6; have hf7 := blk_frozen BK.out 7; have hf8 := blk_frozen BK.out 8) | ((with_reducible refine gate_callee (f := 46) rfl ?_); refine goesL_ (some 8) rfl rfl Try.func46 (by kernel_rfl) rfl #[.slice A6 l0_6.length c6, .int .i64 a1] rfl (by (try simp only [List.map_toArray, List.map_cons, List.map_nil]); first | done | rfl) ?_; refine (laws_markInt64S.calls k (fun k_ => P6_ k_ ∧ k_ < w.heap.size) _ l0_6 a1 m1 l1 w0 _ HB.out HO6.out HA1.out).mono ?_; rintro e w7 ⟨rfl, hy, hb, hkp⟩; refine ⟨_, rfl, ?_⟩; have hg := HG.out; have n6 := Aside0.mk (Kd.R_reok rfl hy (fun k_ e_ => HO6.out.1 k_ e_)); have n7 := Aside0.mk (Kd.R_kept HO7.out hkp (fun k_ hk hs => HP6_7.out k_ hs.1 hk.1)); have n8 := Aside0.mk (Kd.S_kept HO8.out hkp (fun k_ hk hs => HP6_8.out k_ hs.1 hk.1)); have n_g := Aside0.mk (blk_kept BK.out hkp (fun hs => by have := hs.2; omega)); have n_k := Aside0.mk (Kept.then_ HK.out hkp (fun k_ hs => .inl (by simp [hs.1]))); have n_b := Aside0.mk hb; clear HO6 HO7 HO8 HB HK BK hb hkp hy hg; clear hc0 hf0 hc1 hf1 hc2 hf2 hc3 hf3 hc4 hf4 hc5 hf5 hc6 hf6 hc7 hf7 hc8 hf8; have HO6 := n6; have HO7 := n7; have HO8 := n8; have HB := n_b; have HK := n_k; have BK := n_g; clear n6 n7 n8 n_b n_k n_g; have hc0 : w7.cell? ⟨gb, 0, none⟩ = some (.int .i64 a0_0) := (blk_cell BK.out 0).trans rfl; have hc1 : w7.cell? ⟨gb, 1, none⟩ = some (.int .i64 a0_1) := (blk_cell BK.out 1).trans rfl; have hc2 : w7.cell? ⟨gb, 2, none⟩ = some (.int .i64 a0_2) := (blk_cell BK.out 2).trans rfl; have hc3 : w7.cell? ⟨gb, 3, none⟩ = some (.int .i64 a0_3) := (blk_cell BK.out 3).trans rfl; have hc4 : w7.cell? ⟨gb, 4, none⟩ = some (.int .i64 a0_4) := (blk_cell BK.out 4).trans rfl; have hc5 : w7.cell? ⟨gb, 5, none⟩ = some (.int .i64 a0_5) := (blk_cell BK.out 5).trans rfl; have hc6 : w7.cell? ⟨gb, 6, none⟩ = some (.slice A6 l0_6.length c6) := (blk_cell BK.out 6).trans rfl; have hc7 : w7.cell? ⟨gb, 7, none⟩ = some (.slice A7 l0_7.length c7) := (blk_cell BK.out 7).trans rfl; have hc8 : w7.cell? ⟨gb, 8, none⟩ = some (.slice A8 l0_8.length c8) := (blk_cell BK.out 8).trans rfl; have hf0 := blk_frozen BK.out 0; have hf1 := blk_frozen BK.out 1; have hf2 := blk_frozen BK.out 2; have hf3 := blk_frozen BK.out 3; have hf4 := blk_frozen BK.out 4; have hf5 := blk_frozen BK.out 5; have hf6 := blk_frozen BK.out 6; have hf7 := blk_frozen BK.out 7; have hf8 := blk_frozen BK.out 8) | ((with_reducible refine gate_callee (f := 46) rfl ?_); refine goesL_ (some 12) rfl rfl Try.func46 (by kernel_rfl) rfl #[.slice A7 l0_7.length c7, .int .i64 m1] rfl (by (try simp only [List.map_toArray, List.map_cons, List.map_nil]); first | done | rfl) ?_; refine (laws_markInt64S.calls k (fun k_ => P7_ k_ ∧ k_ < w.heap.size) _ l0_7 m1 m2 l2 w0 _ HB.out HO7.out HA2.out).mono ?_; rintro e w8 ⟨rfl, hy, hb, hkp⟩; refine ⟨_, rfl, ?_⟩; have hg := HG.out; have n6 := Aside0.mk (Kd.R_kept HO6.out hkp (fun k_ hk hs => HP6_7.out k_ hk.1 hs.1)); have n7 := Aside0.mk (Kd.R_reok rfl hy (fun k_ e_ => HO7.out.1 k_ e_)); have n8 := Aside0.mk (Kd.S_kept HO8.out hkp (fun k_ hk hs => HP7_8.out k_ hs.1 hk.1)); have n_g := Aside0.mk (blk_kept BK.out hkp (fun hs => by have := hs.2; omega)); have n_k := Aside0.mk (Kept.then_ HK.out hkp (fun k_ hs => .inl (by simp [hs.1]))); have n_b := Aside0.mk hb; clear HO6 HO7 HO8 HB HK BK hb hkp hy hg; clear hc0 hf0 hc1 hf1 hc2 hf2 hc3 hf3 hc4 hf4 hc5 hf5 hc6 hf6 hc7 hf7 hc8 hf8; have HO6 := n6; have HO7 := n7; have HO8 := n8; have HB := n_b; have HK := n_k; have BK := n_g; clear n6 n7 n8 n_b n_k n_g; have hc0 : w8.cell? ⟨gb, 0, none⟩ = some (.int .i64 a0_0) := (blk_cell BK.out 0).trans rfl; have hc1 : w8.cell? ⟨gb, 1, none⟩ = some (.int .i64 a0_1) := (blk_cell BK.out 1).trans rfl; have hc2 : w8.cell? ⟨gb, 2, none⟩ = some (.int .i64 a0_2) := (blk_cell BK.out 2).trans rfl; have hc3 : w8.cell? ⟨gb, 3, none⟩ = some (.int .i64 a0_3) := (blk_cell BK.out 3).trans rfl; have hc4 : w8.cell? ⟨gb, 4, none⟩ = some (.int .i64 a0_4) := (blk_cell BK.out 4).trans rfl; have hc5 : w8.cell? ⟨gb, 5, none⟩ = some (.int .i64 a0_5) := (blk_cell BK.out 5).trans rfl; have hc6 : w8.cell? ⟨gb, 6, none⟩ = some (.slice A6 l0_6.length c6) := (blk_cell BK.out 6).trans rfl; have hc7 : w8.cell? ⟨gb, 7, none⟩ = some (.slice A7 l0_7.length c7) := (blk_cell BK.out 7).trans rfl; have hc8 : w8.cell? ⟨gb, 8, none⟩ = some (.slice A8 l0_8.length c8) := (blk_cell BK.out 8).trans rfl; have hf0 := blk_frozen BK.out 0; have hf1 := blk_frozen BK.out 1; have hf2 := blk_frozen BK.out 2; have hf3 := blk_frozen BK.out 3; have hf4 := blk_frozen BK.out 4; have hf5 := blk_frozen BK.out 5; have hf6 := blk_frozen BK.out 6; have hf7 := blk_frozen BK.out 7; have hf8 := blk_frozen BK.out 8) | ((with_reducible refine gate_callee (f := 82) rfl ?_); refine goesL_ (some 16) rfl rfl Try.func82 (by kernel_rfl) rfl #[.slice A8 l0_8.length c8, .int .i64 m2] rfl (by (try simp only [List.map_toArray, List.map_cons, List.map_nil]); first | done | rfl) ?_; refine (laws_markInt64SS.calls k (fun k_ => P8_ k_ ∧ k_ < w.heap.size) _ l0_8 m2 m3 l3 w0 _ HB.out HO8.out HA3.out).mono ?_; rintro e w9 ⟨rfl, hy, hb, hkp⟩; refine ⟨_, rfl, ?_⟩; have hg := HG.out; have HZ := Aside0.mk HK.out.1; have n6 := Aside0.mk (Kd.R_kept HO6.out hkp (fun k_ hk hs => HP6_8.out k_ hk.1 hs.1)); have n7 := Aside0.mk (Kd.R_kept HO7.out hkp (fun k_ hk hs => HP7_8.out k_ hk.1 hs.1)); have n8 := Aside0.mk hy; have n_g := Aside0.mk (blk_kept BK.out hkp (fun hs => by have := hs.2; omega)); have n_k := Aside0.mk (Kept.then_ HK.out hkp (fun k_ hs => .inl (by simp [hs.1]))); have n_b := Aside0.mk hb; clear HO6 HO7 HO8 HB HK BK hb hkp hy hg; clear hc0 hf0 hc1 hf1 hc2 hf2 hc3 hf3 hc4 hf4 hc5 hf5 hc6 hf6 hc7 hf7 hc8 hf8; have HO6 := n6; have HO7 := n7; have HO8 := n8; have HB := n_b; have HK := n_k; have BK := n_g; clear n6 n7 n8 n_b n_k n_g; have hc0 : w9.cell? ⟨gb, 0, none⟩ = some (.int .i64 a0_0) := (blk_cell BK.out 0).trans rfl; have hc1 : w9.cell? ⟨gb, 1, none⟩ = some (.int .i64 a0_1) := (blk_cell BK.out 1).trans rfl; have hc2 : w9.cell? ⟨gb, 2, none⟩ = some (.int .i64 a0_2) := (blk_cell BK.out 2).trans rfl; have hc3 : w9.cell? ⟨gb, 3, none⟩ = some (.int .i64 a0_3) := (blk_cell BK.out 3).trans rfl; have hc4 : w9.cell? ⟨gb, 4, none⟩ = some (.int .i64 a0_4) := (blk_cell BK.out 4).trans rfl; have hc5 : w9.cell? ⟨gb, 5, none⟩ = some (.int .i64 a0_5) := (blk_cell BK.out 5).trans rfl; have hc6 : w9.cell? ⟨gb, 6, none⟩ = some (.slice A6 l0_6.length c6) := (blk_cell BK.out 6).trans rfl; have hc7 : w9.cell? ⟨gb, 7, none⟩ = some (.slice A7 l0_7.length c7) := (blk_cell BK.out 7).trans rfl; have hc8 : w9.cell? ⟨gb, 8, none⟩ = some (.slice A8 l0_8.length c8) := (blk_cell BK.out 8).trans rfl; have hf0 := blk_frozen BK.out 0; have hf1 := blk_frozen BK.out 1; have hf2 := blk_frozen BK.out 2; have hf3 := blk_frozen BK.out 3; have hf4 := blk_frozen BK.out 4; have hf5 := blk_frozen BK.out 5; have hf6 := blk_frozen BK.out 6; have hf7 := blk_frozen BK.out 7; have hf8 := blk_frozen BK.out 8))
  go_ret
  exact ⟨by first | rfl | (simp; done) | simp_all, Kd.R_mono HO6.out (fun k_ hk => .inl hk.1), Kd.R_mono HO7.out (fun k_ hk => .inl hk.1), Kd.S_mono HO8.out (fun k_ hk => hk.elim (fun h_ => .inl h_.1) (fun h_ => .inr (Nat.le_trans HZ.out h_))), HB.out, HK.out⟩

/-! What a law keeps: the blocks that lie between two marks. -/
section
variable {α : Type} {d : Kd α} {e base a b : Nat} {ok : Nat → Prop} {w W : World} {v : Value} {xs : List α}
theorem lw_Rcap (h : d.R e w base ok v xs) : d.R e w base (fun k_ => ok k_ ∧ base ≤ k_ ∧ k_ < w.heap.size) v xs := Kd.R_mono (Kd.R_bound h) (fun _ hk => ⟨hk.1, hk.2.1, hk.2.2.1⟩)
theorem lw_Scap (h : Kd.S d e w base ok v xs) : Kd.S d e w base (fun k_ => ok k_ ∧ base ≤ k_ ∧ k_ < w.heap.size) v xs := Kd.S_mono (Kd.S_bound h) (fun _ hk => ⟨hk.1, hk.2.1, hk.2.2.1⟩)
theorem lw_Rheld (h : d.R e w base (fun k_ => ok k_ ∧ a ≤ k_ ∧ k_ < b) v xs) (hk : Kept w W (fun k_ => ¬ (a ≤ k_ ∧ k_ < b))) : d.R e W base (fun k_ => ok k_ ∧ a ≤ k_ ∧ k_ < b) v xs := Kd.R_kept h hk (fun _ ho hn => hn ho.2)
theorem lw_Sheld (h : Kd.S d e w base (fun k_ => ok k_ ∧ a ≤ k_ ∧ k_ < b) v xs) (hk : Kept w W (fun k_ => ¬ (a ≤ k_ ∧ k_ < b))) : Kd.S d e W base (fun k_ => ok k_ ∧ a ≤ k_ ∧ k_ < b) v xs := Kd.S_kept h hk (fun _ ho hn => hn ho.2)
theorem lw_Rlen {A : Option Addr} {n c : Nat} (h : d.R e w base ok (.slice A n c) xs) : xs.length ≤ c := by have h_ := Kd.R_reads' h; have := h_.1; have := h_.2.1; omega
theorem lw_Slen {A : Option Addr} {n c : Nat} (h : Kd.S d e w base ok (.slice A n c) xs) : xs.length ≤ c := by have h_ := Kd.S_reads' h; have := h_.1; have := h_.2.1; omega
end
theorem lw_cells2 {W : World} {g T : Nat} {a0 a1 : Value} (hb : W.heap[g]? = some (.cells #[a0, a1] T (0, 0))) : W.cell? ⟨g, 0, none⟩ = some a0 ∧ W.cell? ⟨g, 1, none⟩ = some a1 := ⟨(blk_cell hb 0).trans rfl, (blk_cell hb 1).trans rfl⟩
theorem lw_frz2 {W : World} {g T : Nat} {cs : Array Value} (hb : W.heap[g]? = some (.cells cs T (0, 0))) : W.frozen? ⟨g, 0, none⟩ = false ∧ W.frozen? ⟨g, 1, none⟩ = false := ⟨blk_frozen hb 0, blk_frozen hb 1⟩
theorem lw_put2 {W : World} {g T : Nat} {z0 z1 : Value} (hb : W.heap[g]? = some (.cells #[z0, z1] T (0, 0))) (a0 a1 : Value) : ((W.setCell ⟨g, 0, none⟩ a0).setCell ⟨g, 1, none⟩ a1).heap[g]? = some (.cells #[a0, a1] T (0, 0)) := by
  refine blk_put (cs := #[a0, z1]) ?_ 1 _ rfl
  refine blk_put (cs := #[z0, z1]) ?_ 0 _ rfl
  exact hb
theorem lw_putk2 {w W : World} {S : Nat → Prop} {g : Nat} (hk : Kept w W S) (hg : S g ∨ w.heap.size ≤ g) (a0 a1 : Value) : Kept w ((W.setCell ⟨g, 0, none⟩ a0).setCell ⟨g, 1, none⟩ a1) S := Kept.setCell (p := ⟨g, 1, none⟩) (Kept.setCell (p := ⟨g, 0, none⟩) (hk) hg a0) hg a1
theorem lw_putb2 {w W : World} {g : Nat} (hk : Below w.heap.size w W) (hg : w.heap.size ≤ g) (a0 a1 : Value) : Below w.heap.size w ((W.setCell ⟨g, 0, none⟩ a0).setCell ⟨g, 1, none⟩ a1) := below_set (below_set (hk) hg) hg
theorem lw_cells9 {W : World} {g T : Nat} {a0 a1 a2 a3 a4 a5 a6 a7 a8 : Value} (hb : W.heap[g]? = some (.cells #[a0, a1, a2, a3, a4, a5, a6, a7, a8] T (0, 0))) : W.cell? ⟨g, 0, none⟩ = some a0 ∧ W.cell? ⟨g, 1, none⟩ = some a1 ∧ W.cell? ⟨g, 2, none⟩ = some a2 ∧ W.cell? ⟨g, 3, none⟩ = some a3 ∧ W.cell? ⟨g, 4, none⟩ = some a4 ∧ W.cell? ⟨g, 5, none⟩ = some a5 ∧ W.cell? ⟨g, 6, none⟩ = some a6 ∧ W.cell? ⟨g, 7, none⟩ = some a7 ∧ W.cell? ⟨g, 8, none⟩ = some a8 := ⟨(blk_cell hb 0).trans rfl, (blk_cell hb 1).trans rfl, (blk_cell hb 2).trans rfl, (blk_cell hb 3).trans rfl, (blk_cell hb 4).trans rfl, (blk_cell hb 5).trans rfl, (blk_cell hb 6).trans rfl, (blk_cell hb 7).trans rfl, (blk_cell hb 8).trans rfl⟩
theorem lw_frz9 {W : World} {g T : Nat} {cs : Array Value} (hb : W.heap[g]? = some (.cells cs T (0, 0))) : W.frozen? ⟨g, 0, none⟩ = false ∧ W.frozen? ⟨g, 1, none⟩ = false ∧ W.frozen? ⟨g, 2, none⟩ = false ∧ W.frozen? ⟨g, 3, none⟩ = false ∧ W.frozen? ⟨g, 4, none⟩ = false ∧ W.frozen? ⟨g, 5, none⟩ = false ∧ W.frozen? ⟨g, 6, none⟩ = false ∧ W.frozen? ⟨g, 7, none⟩ = false ∧ W.frozen? ⟨g, 8, none⟩ = false := ⟨blk_frozen hb 0, blk_frozen hb 1, blk_frozen hb 2, blk_frozen hb 3, blk_frozen hb 4, blk_frozen hb 5, blk_frozen hb 6, blk_frozen hb 7, blk_frozen hb 8⟩
theorem lw_put9 {W : World} {g T : Nat} {z0 z1 z2 z3 z4 z5 z6 z7 z8 : Value} (hb : W.heap[g]? = some (.cells #[z0, z1, z2, z3, z4, z5, z6, z7, z8] T (0, 0))) (a0 a1 a2 a3 a4 a5 a6 a7 a8 : Value) : (((((((((W.setCell ⟨g, 0, none⟩ a0).setCell ⟨g, 1, none⟩ a1).setCell ⟨g, 2, none⟩ a2).setCell ⟨g, 3, none⟩ a3).setCell ⟨g, 4, none⟩ a4).setCell ⟨g, 5, none⟩ a5).setCell ⟨g, 6, none⟩ a6).setCell ⟨g, 7, none⟩ a7).setCell ⟨g, 8, none⟩ a8).heap[g]? = some (.cells #[a0, a1, a2, a3, a4, a5, a6, a7, a8] T (0, 0)) := by
  refine blk_put (cs := #[a0, a1, a2, a3, a4, a5, a6, a7, z8]) ?_ 8 _ rfl
  refine blk_put (cs := #[a0, a1, a2, a3, a4, a5, a6, z7, z8]) ?_ 7 _ rfl
  refine blk_put (cs := #[a0, a1, a2, a3, a4, a5, z6, z7, z8]) ?_ 6 _ rfl
  refine blk_put (cs := #[a0, a1, a2, a3, a4, z5, z6, z7, z8]) ?_ 5 _ rfl
  refine blk_put (cs := #[a0, a1, a2, a3, z4, z5, z6, z7, z8]) ?_ 4 _ rfl
  refine blk_put (cs := #[a0, a1, a2, z3, z4, z5, z6, z7, z8]) ?_ 3 _ rfl
  refine blk_put (cs := #[a0, a1, z2, z3, z4, z5, z6, z7, z8]) ?_ 2 _ rfl
  refine blk_put (cs := #[a0, z1, z2, z3, z4, z5, z6, z7, z8]) ?_ 1 _ rfl
  refine blk_put (cs := #[z0, z1, z2, z3, z4, z5, z6, z7, z8]) ?_ 0 _ rfl
  exact hb
theorem lw_putk9 {w W : World} {S : Nat → Prop} {g : Nat} (hk : Kept w W S) (hg : S g ∨ w.heap.size ≤ g) (a0 a1 a2 a3 a4 a5 a6 a7 a8 : Value) : Kept w (((((((((W.setCell ⟨g, 0, none⟩ a0).setCell ⟨g, 1, none⟩ a1).setCell ⟨g, 2, none⟩ a2).setCell ⟨g, 3, none⟩ a3).setCell ⟨g, 4, none⟩ a4).setCell ⟨g, 5, none⟩ a5).setCell ⟨g, 6, none⟩ a6).setCell ⟨g, 7, none⟩ a7).setCell ⟨g, 8, none⟩ a8) S := Kept.setCell (p := ⟨g, 8, none⟩) (Kept.setCell (p := ⟨g, 7, none⟩) (Kept.setCell (p := ⟨g, 6, none⟩) (Kept.setCell (p := ⟨g, 5, none⟩) (Kept.setCell (p := ⟨g, 4, none⟩) (Kept.setCell (p := ⟨g, 3, none⟩) (Kept.setCell (p := ⟨g, 2, none⟩) (Kept.setCell (p := ⟨g, 1, none⟩) (Kept.setCell (p := ⟨g, 0, none⟩) (hk) hg a0) hg a1) hg a2) hg a3) hg a4) hg a5) hg a6) hg a7) hg a8
theorem lw_putb9 {w W : World} {g : Nat} (hk : Below w.heap.size w W) (hg : w.heap.size ≤ g) (a0 a1 a2 a3 a4 a5 a6 a7 a8 : Value) : Below w.heap.size w (((((((((W.setCell ⟨g, 0, none⟩ a0).setCell ⟨g, 1, none⟩ a1).setCell ⟨g, 2, none⟩ a2).setCell ⟨g, 3, none⟩ a3).setCell ⟨g, 4, none⟩ a4).setCell ⟨g, 5, none⟩ a5).setCell ⟨g, 6, none⟩ a6).setCell ⟨g, 7, none⟩ a7).setCell ⟨g, 8, none⟩ a8) := below_set (below_set (below_set (below_set (below_set (below_set (below_set (below_set (below_set (hk) hg) hg) hg) hg) hg) hg) hg) hg) hg

/-! ### laws_FnExactPartCoefs: function 5 -/
def laws_FnExactPartCoefs.f (k : Nat) (a0_0 : Int) (a0_1 : Int) (a0_2 : Int) (a0_3 : Int) (a0_4 : Int) (a0_5 : Int) (l0_6 : List Int) (l0_7 : List Int) (l0_8 : List (List Int)) : Option (Bool) := (laws_szPart.f k a0_0 a0_1 a0_2 a0_3 a0_4 a0_5 l0_6 l0_7 l0_8 1048576).bind fun b0 => if b0 < 0 then some true else (laws_toPart.f k a0_0 a0_1 a0_2 a0_3 a0_4 a0_5 l0_6 l0_7 l0_8).bind fun b2 => (spec_PartCoefs.f k b2.1 b2.2.1 b2.2.2.1 b2.2.2.2.1 b2.2.2.2.2.1 b2.2.2.2.2.2.1 b2.2.2.2.2.2.2.1 b2.2.2.2.2.2.2.2.1 b2.2.2.2.2.2.2.2.2).bind fun b3 => (impl_PartCoefs.f k b2.1 b2.2.1 b2.2.2.1 b2.2.2.2.1 b2.2.2.2.2.1 b2.2.2.2.2.2.1 b2.2.2.2.2.2.2.1 b2.2.2.2.2.2.2.2.1 b2.2.2.2.2.2.2.2.2).bind fun b4 => (laws_eqIntsResult.f k b4.1 b4.2 b3.1 b3.2).bind fun b5 => if b5 = true then (laws_eqPart.f k b2.1 b2.2.1 b2.2.2.1 b2.2.2.2.1 b2.2.2.2.2.1 b2.2.2.2.2.2.1 b2.2.2.2.2.2.2.1 b2.2.2.2.2.2.2.2.1 b2.2.2.2.2.2.2.2.2 b2.1 b2.2.1 b2.2.2.1 b2.2.2.2.1 b2.2.2.2.2.1 b2.2.2.2.2.2.1 b2.2.2.2.2.2.2.1 b2.2.2.2.2.2.2.2.1 b2.2.2.2.2.2.2.2.2).bind fun b6 => if b6 = true then (laws_markPart.f k b2.1 b2.2.1 b2.2.2.1 b2.2.2.2.1 b2.2.2.2.2.1 b2.2.2.2.2.2.1 b2.2.2.2.2.2.2.1 b2.2.2.2.2.2.2.2.1 b2.2.2.2.2.2.2.2.2 1).bind fun b7 => if b7.1 < 0 then none else (laws_markIntsResult.f k b4.1 b4.2 1).bind fun b9 => (laws_heldIntsResult.f k b4.1 b9.2 1).bind fun b10 => if b10 < 0 then none else if b10 = b9.1 then some true else none else none else none
set_option maxHeartbeats 8000000 in
set_option maxRecDepth 100000 in
theorem laws_FnExactPartCoefs.calls (k : Nat) (a0_0 : Int) (a0_1 : Int) (a0_2 : Int) (a0_3 : Int) (a0_4 : Int) (a0_5 : Int) (A0_6 : Option Addr) (c0_6 : Nat) (l0_6 : List Int) (A0_7 : Option Addr) (c0_7 : Nat) (l0_7 : List Int) (A0_8 : Option Addr) (c0_8 : Nat) (l0_8 : List (List Int)) (r : Bool) (w : World) (hr0_6 : Kd.C (Kd.int .i64) w A0_6 l0_6.length l0_6) (hc0_6 : l0_6.length ≤ c0_6) (hr0_7 : Kd.C (Kd.int .i64) w A0_7 l0_7.length l0_7) (hc0_7 : l0_7.length ≤ c0_7) (hr0_8 : Kd.C (Kd.slice 2 (Kd.int .i64)) w A0_8 l0_8.length l0_8) (hc0_8 : l0_8.length ≤ c0_8) (h : laws_FnExactPartCoefs.f k a0_0 a0_1 a0_2 a0_3 a0_4 a0_5 l0_6 l0_7 l0_8 = some r) :
    Calls Try.prog 5 #[.agg #[.int .i64 a0_0, .int .i64 a0_1, .int .i64 a0_2, .int .i64 a0_3, .int .i64 a0_4, .int .i64 a0_5, .slice A0_6 l0_6.length c0_6, .slice A0_7 l0_7.length c0_7, .slice A0_8 l0_8.length c0_8]] w fun e w' => e = .returned (.bool r) ∧ Below w.heap.size w w' := by
  have hu27 := Try.underlying27
  have hu44 := Try.underlying44
  have hu47 := Try.underlying47
  have HR0_6 := Aside0.mk hr0_6
  have HC0_6 := Aside0.mk hc0_6
  clear hr0_6 hc0_6
  have HR0_7 := Aside0.mk hr0_7
  have HC0_7 := Aside0.mk hc0_7
  clear hr0_7 hc0_7
  have HR0_8 := Aside0.mk hr0_8
  have HC0_8 := Aside0.mk hc0_8
  clear hr0_8 hc0_8
  have HB := Aside0.mk (Below.refl w.heap.size w)
  unfold laws_FnExactPartCoefs.f at h
  replace h := Option.bind_eq_some_iff.mp h
  obtain ⟨s0, e_, h⟩ := h
  have Esz0 := Aside0.mk e_
  clear e_
  try dsimp only at h
  by_cases c_ : s0 < 0
  · rw [if_pos c_] at h
    obtain rfl := Option.some.inj h
    have c1_ := decide_eq_true c_
    clear c_ h
    go_enter Try.func5, Try.ntmps5
    go_wp2_with (first | ((with_reducible refine gate_dst (N := 1) rfl ?_); refine box_event ?hg (N := 1) ?hd (cs := #[.int .i64 a0_0, .int .i64 a0_1, .int .i64 a0_2, .int .i64 a0_3, .int .i64 a0_4, .int .i64 a0_5, .slice A0_6 l0_6.length c0_6, .slice A0_7 l0_7.length c0_7, .slice A0_8 l0_8.length c0_8]) (t := 44) ?hr ?_; (case hd => rfl); (case hg => rfl); (case hr => first | (go_simp; done) | (go_simp; rfl)); intro gb1 hg w2 hbox hb; have q0 := Aside0.mk (below_step HB.out hb); clear HB; have HB := q0; clear q0; clear hb; have BKgb1 := Aside0.mk hbox; have Ch3 := Aside0.mk (Kept.refl w2 (fun k_ => ¬ k_ = gb1)); clear hbox hg; obtain ⟨ccgb1_0, ccgb1_1, ccgb1_2, ccgb1_3, ccgb1_4, ccgb1_5, ccgb1_6, ccgb1_7, ccgb1_8⟩ := lw_cells9 (blk_kept BKgb1.out Ch3.out (fun h_ => h_ rfl))) | ((with_reducible refine gate_callee (f := 28) rfl ?_); refine goesL_ (some 13) rfl rfl Try.func28 (by kernel_rfl) rfl #[.agg #[.int .i64 a0_0, .int .i64 a0_1, .int .i64 a0_2, .int .i64 a0_3, .int .i64 a0_4, .int .i64 a0_5, .slice A0_6 l0_6.length c0_6, .slice A0_7 l0_7.length c0_7, .slice A0_8 l0_8.length c0_8], .int .i64 1048576] rfl (by (try simp only [List.map_toArray, List.map_cons, List.map_nil]); first | done | rfl) ?_; refine (laws_szPart.calls k a0_0 a0_1 a0_2 a0_3 a0_4 a0_5 A0_6 c0_6 l0_6 A0_7 c0_7 l0_7 A0_8 c0_8 l0_8 1048576 s0 _ (Kd.C_below HR0_6.out HB.out) HC0_6.out (Kd.C_below HR0_7.out HB.out) HC0_7.out (Kd.C_below HR0_8.out HB.out) HC0_8.out Esz0.out).mono ?_; rintro e w5 ⟨rfl, hb⟩; refine ⟨_, rfl, ?_⟩; have q0 := Aside0.mk (below_step HB.out hb); have q1 := Aside0.mk (Kept.below Ch3.out hb); clear HB Ch3; have HB := q0; have Ch3 := q1; clear q0 q1; clear hb; clear ccgb1_0 ccgb1_1 ccgb1_2 ccgb1_3 ccgb1_4 ccgb1_5 ccgb1_6 ccgb1_7 ccgb1_8; obtain ⟨ccgb1_0, ccgb1_1, ccgb1_2, ccgb1_3, ccgb1_4, ccgb1_5, ccgb1_6, ccgb1_7, ccgb1_8⟩ := lw_cells9 (blk_kept BKgb1.out Ch3.out (fun h_ => h_ rfl))))
    go_ret
    exact ⟨by first | rfl | (simp; done) | (simp [*]; done), HB.out⟩
  rw [if_neg c_] at h
  have c11_ := decide_eq_false c_
  clear c_
  replace h := Option.bind_eq_some_iff.mp h
  obtain ⟨⟨x0_0, x0_1, x0_2, x0_3, x0_4, x0_5, x0_6, x0_7, x0_8⟩, e_, h⟩ := h
  have Eto0 := Aside0.mk e_
  clear e_
  try dsimp only at h
  replace h := Option.bind_eq_some_iff.mp h
  obtain ⟨⟨y0, y1⟩, e_, h⟩ := h
  have Ey := Aside0.mk e_
  clear e_
  try dsimp only at h
  replace h := Option.bind_eq_some_iff.mp h
  obtain ⟨⟨z0, z1⟩, e_, h⟩ := h
  have Ez := Aside0.mk e_
  clear e_
  try dsimp only at h
  replace h := Option.bind_eq_some_iff.mp h
  obtain ⟨er, e_, h⟩ := h
  have Er := Aside0.mk e_
  clear e_
  try dsimp only at h
  by_cases c_ : er = true
  rotate_left
  · rw [if_neg c_] at h; cases h
  rw [if_pos c_] at h
  subst c_
  replace h := Option.bind_eq_some_iff.mp h
  obtain ⟨ep0, e_, h⟩ := h
  have Ep0 := Aside0.mk e_
  clear e_
  try dsimp only at h
  by_cases c_ : ep0 = true
  rotate_left
  · rw [if_neg c_] at h; cases h
  rw [if_pos c_] at h
  subst c_
  replace h := Option.bind_eq_some_iff.mp h
  obtain ⟨⟨k0, xm0_6, xm0_7, xm0_8⟩, e_, h⟩ := h
  have Em0 := Aside0.mk e_
  clear e_
  try dsimp only at h
  by_cases c_ : k0 < 0
  · rw [if_pos c_] at h; cases h
  rw [if_neg c_] at h
  have d0_ := decide_eq_false c_
  clear c_
  replace h := Option.bind_eq_some_iff.mp h
  obtain ⟨⟨m, zm1⟩, e_, h⟩ := h
  have Emr := Aside0.mk e_
  clear e_
  try dsimp only at h
  replace h := Option.bind_eq_some_iff.mp h
  obtain ⟨q, e_, h⟩ := h
  have Eh := Aside0.mk e_
  clear e_
  try dsimp only at h
  by_cases c_ : q < 0
  · rw [if_pos c_] at h; cases h
  rw [if_neg c_] at h
  have d1_ := decide_eq_false c_
  clear c_
  by_cases c_ : q = m
  rotate_left
  · rw [if_neg c_] at h; cases h
  rw [if_pos c_] at h
  subst c_
  obtain rfl := Option.some.inj h
  clear h
  go_enter Try.func5, Try.ntmps5
  go_wp2_with (first | ((with_reducible refine gate_dst (N := 1) rfl ?_); refine box_event ?hg (N := 1) ?hd (cs := #[.int .i64 a0_0, .int .i64 a0_1, .int .i64 a0_2, .int .i64 a0_3, .int .i64 a0_4, .int .i64 a0_5, .slice A0_6 l0_6.length c0_6, .slice A0_7 l0_7.length c0_7, .slice A0_8 l0_8.length c0_8]) (t := 44) ?hr ?_; (case hd => rfl); (case hg => rfl); (case hr => first | (go_simp; done) | (go_simp; rfl)); intro gb6 hg w7 hbox hb; have q0 := Aside0.mk (below_step HB.out hb); clear HB; have HB := q0; clear q0; clear hb; have BKgb6 := Aside0.mk hbox; have Ch8 := Aside0.mk (Kept.refl w7 (fun k_ => ¬ k_ = gb6)); clear hbox hg; obtain ⟨ccgb6_0, ccgb6_1, ccgb6_2, ccgb6_3, ccgb6_4, ccgb6_5, ccgb6_6, ccgb6_7, ccgb6_8⟩ := lw_cells9 (blk_kept BKgb6.out Ch8.out (fun h_ => h_ rfl))) | ((with_reducible refine gate_callee (f := 28) rfl ?_); refine goesL_ (some 13) rfl rfl Try.func28 (by kernel_rfl) rfl #[.agg #[.int .i64 a0_0, .int .i64 a0_1, .int .i64 a0_2, .int .i64 a0_3, .int .i64 a0_4, .int .i64 a0_5, .slice A0_6 l0_6.length c0_6, .slice A0_7 l0_7.length c0_7, .slice A0_8 l0_8.length c0_8], .int .i64 1048576] rfl (by (try simp only [List.map_toArray, List.map_cons, List.map_nil]); first | done | rfl) ?_; refine (laws_szPart.calls k a0_0 a0_1 a0_2 a0_3 a0_4 a0_5 A0_6 c0_6 l0_6 A0_7 c0_7 l0_7 A0_8 c0_8 l0_8 1048576 s0 _ (Kd.C_below HR0_6.out HB.out) HC0_6.out (Kd.C_below HR0_7.out HB.out) HC0_7.out (Kd.C_below HR0_8.out HB.out) HC0_8.out Esz0.out).mono ?_; rintro e w10 ⟨rfl, hb⟩; refine ⟨_, rfl, ?_⟩; have q0 := Aside0.mk (below_step HB.out hb); have q1 := Aside0.mk (Kept.below Ch8.out hb); clear HB Ch8; have HB := q0; have Ch8 := q1; clear q0 q1; clear hb; clear ccgb6_0 ccgb6_1 ccgb6_2 ccgb6_3 ccgb6_4 ccgb6_5 ccgb6_6 ccgb6_7 ccgb6_8; obtain ⟨ccgb6_0, ccgb6_1, ccgb6_2, ccgb6_3, ccgb6_4, ccgb6_5, ccgb6_6, ccgb6_7, ccgb6_8⟩ := lw_cells9 (blk_kept BKgb6.out Ch8.out (fun h_ => h_ rfl))) | ((with_reducible refine gate_callee (f := 30) rfl ?_); refine goesL_ (some 17) rfl rfl Try.func30 (by kernel_rfl) rfl #[.agg #[.int .i64 a0_0, .int .i64 a0_1, .int .i64 a0_2, .int .i64 a0_3, .int .i64 a0_4, .int .i64 a0_5, .slice A0_6 l0_6.length c0_6, .slice A0_7 l0_7.length c0_7, .slice A0_8 l0_8.length c0_8]] rfl (by (try simp only [List.map_toArray, List.map_cons, List.map_nil]); first | done | rfl) ?_; refine (laws_toPart.calls k a0_0 a0_1 a0_2 a0_3 a0_4 a0_5 A0_6 c0_6 l0_6 A0_7 c0_7 l0_7 A0_8 c0_8 l0_8 x0_0 x0_1 x0_2 x0_3 x0_4 x0_5 x0_6 x0_7 x0_8 _ (Kd.C_below HR0_6.out HB.out) HC0_6.out (Kd.C_below HR0_7.out HB.out) HC0_7.out (Kd.C_below HR0_8.out HB.out) HC0_8.out Eto0.out).mono ?_; rintro e w11 ⟨v6, v7, v8, rfl, ho6, ho7, ho8, hb⟩; refine ⟨_, rfl, ?_⟩; have OCh8_Ch12 := Aside0.mk (show gb6 < w10.heap.size from Nat.lt_of_lt_of_le (blk_lt BKgb6.out) Ch8.out.1); have OBCh12 := Aside0.mk (show w.heap.size ≤ w10.heap.size from HB.out.size); obtain ⟨A13, c13, rfl⟩ := Kd.R_slice ho6; have RX13 := Aside0.mk (lw_Rcap ho6); obtain ⟨A14, c14, rfl⟩ := Kd.R_slice ho7; have RX14 := Aside0.mk (lw_Rcap ho7); obtain ⟨A15, c15, rfl⟩ := Kd.S_slice ho8; have RX15 := Aside0.mk (lw_Scap ho8); clear ho6 ho7 ho8; have q0 := Aside0.mk (below_step HB.out hb); have q1 := Aside0.mk (Kept.below Ch8.out hb); clear HB Ch8; have HB := q0; have Ch8 := q1; clear q0 q1; clear hb; have Ch12 := Aside0.mk (Kept.refl w11 (fun k_ => ¬ (w10.heap.size ≤ k_ ∧ k_ < w11.heap.size))); clear ccgb6_0 ccgb6_1 ccgb6_2 ccgb6_3 ccgb6_4 ccgb6_5 ccgb6_6 ccgb6_7 ccgb6_8) | ((with_reducible refine gate_callee (f := 29) rfl ?_); refine goesL_ (some 18) rfl rfl Try.func29 (by kernel_rfl) rfl #[.agg #[.int .i64 x0_0, .int .i64 x0_1, .int .i64 x0_2, .int .i64 x0_3, .int .i64 x0_4, .int .i64 x0_5, .slice A13 x0_6.length c13, .slice A14 x0_7.length c14, .slice A15 x0_8.length c15]] rfl (by (try simp only [List.map_toArray, List.map_cons, List.map_nil]); first | done | rfl) ?_; refine (spec_PartCoefs.calls k x0_0 x0_1 x0_2 x0_3 x0_4 x0_5 A13 c13 x0_6 A14 c14 x0_7 A15 c15 x0_8 y0 y1 _ (Kd.R_reads' (lw_Rheld RX13.out Ch12.out)).2.2 (lw_Rlen (lw_Rheld RX13.out Ch12.out)) (Kd.R_reads' (lw_Rheld RX14.out Ch12.out)).2.2 (lw_Rlen (lw_Rheld RX14.out Ch12.out)) (Kd.S_reads' (lw_Sheld RX15.out Ch12.out)).2.2 (lw_Slen (lw_Sheld RX15.out Ch12.out)) Ey.out).mono ?_; rintro e w17 ⟨v1, rfl, ho1, hb⟩; refine ⟨_, rfl, ?_⟩; have OCh8_Ch18 := Aside0.mk (show gb6 < w11.heap.size from Nat.lt_of_lt_of_le (blk_lt BKgb6.out) Ch8.out.1); have OCh12_Ch18 := Aside0.mk (show w11.heap.size ≤ w11.heap.size from Ch12.out.1); have OBCh18 := Aside0.mk (show w.heap.size ≤ w11.heap.size from HB.out.size); obtain ⟨A19, c19, rfl⟩ := Kd.R_slice ho1; have RX19 := Aside0.mk (lw_Rcap ho1); clear ho1; have q0 := Aside0.mk (below_step HB.out hb); have q1 := Aside0.mk (Kept.below Ch8.out hb); have q2 := Aside0.mk (Kept.below Ch12.out hb); clear HB Ch8 Ch12; have HB := q0; have Ch8 := q1; have Ch12 := q2; clear q0 q1 q2; clear hb; have Ch18 := Aside0.mk (Kept.refl w17 (fun k_ => ¬ (w11.heap.size ≤ k_ ∧ k_ < w17.heap.size))); clear Ch12) | ((with_reducible refine gate_dst (N := 4) rfl ?_); refine box_event ?hg (N := 4) ?hd (cs := #[.int .i64 0, .slice none 0 0]) (t := 27) ?hr ?_; (case hd => rfl); (case hg => rfl); (case hr => first | (go_simp; done) | (go_simp; rfl)); intro gb21 hg w22 hbox hb; have GBgb21 := Aside0.mk (show w.heap.size ≤ gb21 by rw [hg]; exact HB.out.size); have GCh8_gb21 := Aside0.mk (show w7.heap.size ≤ gb21 by rw [hg]; exact Ch8.out.1); have GCh18_gb21 := Aside0.mk (show w17.heap.size ≤ gb21 by rw [hg]; exact Ch18.out.1); have q0 := Aside0.mk (below_step HB.out hb); have q1 := Aside0.mk (Kept.below Ch8.out hb); have q2 := Aside0.mk (Kept.below Ch18.out hb); clear HB Ch8 Ch18; have HB := q0; have Ch8 := q1; have Ch18 := q2; clear q0 q1 q2; clear hb; have BZ := Aside0.mk hbox; obtain ⟨cz0, cz1⟩ := lw_cells2 hbox; obtain ⟨cf0, cf1⟩ := lw_frz2 hbox; clear hbox hg) | ((with_reducible refine gate_store (t := 27) (p := 4) rfl ?_); refine store_event (t := 27) (p := 4) (v := ?vo_w23) (w1 := ((w22.setCell ⟨gb21, 0, none⟩ (.int .i64 y0)).setCell ⟨gb21, 1, none⟩ (.slice A19 y1.length c19))) ?hg ?ho ?hn ?hr ?_; (case ho => rfl); (case hg => rfl); (case hn => rfl); (case hr => first | (go_simp; done) | (go_simp; rfl)); intro w23 hw; have q0 := Aside0.mk (show Below w.heap.size w w23 by rw [hw]; exact lw_putb2 HB.out GBgb21.out (.int .i64 y0) (.slice A19 y1.length c19)); have q1 := Aside0.mk (show Kept w7 w23 (fun k_ => ¬ k_ = gb6) by rw [hw]; exact lw_putk2 Ch8.out (.inr GCh8_gb21.out) (.int .i64 y0) (.slice A19 y1.length c19)); have q2 := Aside0.mk (show Kept w17 w23 (fun k_ => ¬ (w11.heap.size ≤ k_ ∧ k_ < w17.heap.size)) by rw [hw]; exact lw_putk2 Ch18.out (.inr GCh18_gb21.out) (.int .i64 y0) (.slice A19 y1.length c19)); clear HB Ch8 Ch18; have HB := q0; have Ch8 := q1; have Ch18 := q2; clear q0 q1 q2; have BKgb21 := Aside0.mk (show w23.heap[gb21]? = some (.cells #[.int .i64 y0, .slice A19 y1.length c19] 27 (0, 0)) by rw [hw]; exact lw_put2 BZ.out (.int .i64 y0) (.slice A19 y1.length c19)); clear hw BZ; have Ch24 := Aside0.mk (Kept.refl w23 (fun k_ => ¬ k_ = gb21)); clear cz0 cz1 cf0 cf1; obtain ⟨ccgb6_0, ccgb6_1, ccgb6_2, ccgb6_3, ccgb6_4, ccgb6_5, ccgb6_6, ccgb6_7, ccgb6_8⟩ := lw_cells9 (blk_kept BKgb6.out Ch8.out (fun h_ => h_ rfl))) | ((with_reducible refine gate_callee (f := 30) rfl ?_); refine goesL_ (some 20) rfl rfl Try.func30 (by kernel_rfl) rfl #[.agg #[.int .i64 a0_0, .int .i64 a0_1, .int .i64 a0_2, .int .i64 a0_3, .int .i64 a0_4, .int .i64 a0_5, .slice A0_6 l0_6.length c0_6, .slice A0_7 l0_7.length c0_7, .slice A0_8 l0_8.length c0_8]] rfl (by (try simp only [List.map_toArray, List.map_cons, List.map_nil]); first | done | rfl) ?_; refine (laws_toPart.calls k a0_0 a0_1 a0_2 a0_3 a0_4 a0_5 A0_6 c0_6 l0_6 A0_7 c0_7 l0_7 A0_8 c0_8 l0_8 x0_0 x0_1 x0_2 x0_3 x0_4 x0_5 x0_6 x0_7 x0_8 _ (Kd.C_below HR0_6.out HB.out) HC0_6.out (Kd.C_below HR0_7.out HB.out) HC0_7.out (Kd.C_below HR0_8.out HB.out) HC0_8.out Eto0.out).mono ?_; rintro e w26 ⟨v6, v7, v8, rfl, ho6, ho7, ho8, hb⟩; refine ⟨_, rfl, ?_⟩; have OCh8_Ch27 := Aside0.mk (show gb6 < w23.heap.size from Nat.lt_of_lt_of_le (blk_lt BKgb6.out) Ch8.out.1); have OCh18_Ch27 := Aside0.mk (show w17.heap.size ≤ w23.heap.size from Ch18.out.1); have OCh24_Ch27 := Aside0.mk (show gb21 < w23.heap.size from Nat.lt_of_lt_of_le (blk_lt BKgb21.out) Ch24.out.1); have OBCh27 := Aside0.mk (show w.heap.size ≤ w23.heap.size from HB.out.size); obtain ⟨A28, c28, rfl⟩ := Kd.R_slice ho6; have RX28 := Aside0.mk (lw_Rcap ho6); obtain ⟨A29, c29, rfl⟩ := Kd.R_slice ho7; have RX29 := Aside0.mk (lw_Rcap ho7); obtain ⟨A30, c30, rfl⟩ := Kd.S_slice ho8; have RX30 := Aside0.mk (lw_Scap ho8); clear ho6 ho7 ho8; have q0 := Aside0.mk (below_step HB.out hb); have q1 := Aside0.mk (Kept.below Ch8.out hb); have q2 := Aside0.mk (Kept.below Ch18.out hb); have q3 := Aside0.mk (Kept.below Ch24.out hb); clear HB Ch8 Ch18 Ch24; have HB := q0; have Ch8 := q1; have Ch18 := q2; have Ch24 := q3; clear q0 q1 q2 q3; clear hb; have Ch27 := Aside0.mk (Kept.refl w26 (fun k_ => ¬ (w23.heap.size ≤ k_ ∧ k_ < w26.heap.size))); clear ccgb6_0 ccgb6_1 ccgb6_2 ccgb6_3 ccgb6_4 ccgb6_5 ccgb6_6 ccgb6_7 ccgb6_8) | ((with_reducible refine gate_dst (N := 5) rfl ?_); refine box_event ?hg (N := 5) ?hd (cs := #[.int .i64 0, .int .i64 0, .int .i64 0, .int .i64 0, .int .i64 0, .int .i64 0, .slice none 0 0, .slice none 0 0, .slice none 0 0]) (t := 47) ?hr ?_; (case hd => rfl); (case hg => rfl); (case hr => first | (go_simp; done) | (go_simp; rfl)); intro gb32 hg w33 hbox hb; have GBgb32 := Aside0.mk (show w.heap.size ≤ gb32 by rw [hg]; exact HB.out.size); have GCh8_gb32 := Aside0.mk (show w7.heap.size ≤ gb32 by rw [hg]; exact Ch8.out.1); have GCh18_gb32 := Aside0.mk (show w17.heap.size ≤ gb32 by rw [hg]; exact Ch18.out.1); have GCh24_gb32 := Aside0.mk (show w23.heap.size ≤ gb32 by rw [hg]; exact Ch24.out.1); have GCh27_gb32 := Aside0.mk (show w26.heap.size ≤ gb32 by rw [hg]; exact Ch27.out.1); have q0 := Aside0.mk (below_step HB.out hb); have q1 := Aside0.mk (Kept.below Ch8.out hb); have q2 := Aside0.mk (Kept.below Ch18.out hb); have q3 := Aside0.mk (Kept.below Ch24.out hb); have q4 := Aside0.mk (Kept.below Ch27.out hb); clear HB Ch8 Ch18 Ch24 Ch27; have HB := q0; have Ch8 := q1; have Ch18 := q2; have Ch24 := q3; have Ch27 := q4; clear q0 q1 q2 q3 q4; clear hb; have BZ := Aside0.mk hbox; obtain ⟨cz0, cz1, cz2, cz3, cz4, cz5, cz6, cz7, cz8⟩ := lw_cells9 hbox; obtain ⟨cf0, cf1, cf2, cf3, cf4, cf5, cf6, cf7, cf8⟩ := lw_frz9 hbox; clear hbox hg) | ((with_reducible refine gate_store (t := 47) (p := 5) rfl ?_); refine store_event (t := 47) (p := 5) (v := ?vo_w34) (w1 := (((((((((w33.setCell ⟨gb32, 0, none⟩ (.int .i64 x0_0)).setCell ⟨gb32, 1, none⟩ (.int .i64 x0_1)).setCell ⟨gb32, 2, none⟩ (.int .i64 x0_2)).setCell ⟨gb32, 3, none⟩ (.int .i64 x0_3)).setCell ⟨gb32, 4, none⟩ (.int .i64 x0_4)).setCell ⟨gb32, 5, none⟩ (.int .i64 x0_5)).setCell ⟨gb32, 6, none⟩ (.slice A28 x0_6.length c28)).setCell ⟨gb32, 7, none⟩ (.slice A29 x0_7.length c29)).setCell ⟨gb32, 8, none⟩ (.slice A30 x0_8.length c30))) ?hg ?ho ?hn ?hr ?_; (case ho => rfl); (case hg => rfl); (case hn => rfl); (case hr => first | (go_simp; done) | (go_simp; rfl)); intro w34 hw; have q0 := Aside0.mk (show Below w.heap.size w w34 by rw [hw]; exact lw_putb9 HB.out GBgb32.out (.int .i64 x0_0) (.int .i64 x0_1) (.int .i64 x0_2) (.int .i64 x0_3) (.int .i64 x0_4) (.int .i64 x0_5) (.slice A28 x0_6.length c28) (.slice A29 x0_7.length c29) (.slice A30 x0_8.length c30)); have q1 := Aside0.mk (show Kept w7 w34 (fun k_ => ¬ k_ = gb6) by rw [hw]; exact lw_putk9 Ch8.out (.inr GCh8_gb32.out) (.int .i64 x0_0) (.int .i64 x0_1) (.int .i64 x0_2) (.int .i64 x0_3) (.int .i64 x0_4) (.int .i64 x0_5) (.slice A28 x0_6.length c28) (.slice A29 x0_7.length c29) (.slice A30 x0_8.length c30)); have q2 := Aside0.mk (show Kept w17 w34 (fun k_ => ¬ (w11.heap.size ≤ k_ ∧ k_ < w17.heap.size)) by rw [hw]; exact lw_putk9 Ch18.out (.inr GCh18_gb32.out) (.int .i64 x0_0) (.int .i64 x0_1) (.int .i64 x0_2) (.int .i64 x0_3) (.int .i64 x0_4) (.int .i64 x0_5) (.slice A28 x0_6.length c28) (.slice A29 x0_7.length c29) (.slice A30 x0_8.length c30)); have q3 := Aside0.mk (show Kept w23 w34 (fun k_ => ¬ k_ = gb21) by rw [hw]; exact lw_putk9 Ch24.out (.inr GCh24_gb32.out) (.int .i64 x0_0) (.int .i64 x0_1) (.int .i64 x0_2) (.int .i64 x0_3) (.int .i64 x0_4) (.int .i64 x0_5) (.slice A28 x0_6.length c28) (.slice A29 x0_7.length c29) (.slice A30 x0_8.length c30)); have q4 := Aside0.mk (show Kept w26 w34 (fun k_ => ¬ (w23.heap.size ≤ k_ ∧ k_ < w26.heap.size)) by rw [hw]; exact lw_putk9 Ch27.out (.inr GCh27_gb32.out) (.int .i64 x0_0) (.int .i64 x0_1) (.int .i64 x0_2) (.int .i64 x0_3) (.int .i64 x0_4) (.int .i64 x0_5) (.slice A28 x0_6.length c28) (.slice A29 x0_7.length c29) (.slice A30 x0_8.length c30)); clear HB Ch8 Ch18 Ch24 Ch27; have HB := q0; have Ch8 := q1; have Ch18 := q2; have Ch24 := q3; have Ch27 := q4; clear q0 q1 q2 q3 q4; have BKgb32 := Aside0.mk (show w34.heap[gb32]? = some (.cells #[.int .i64 x0_0, .int .i64 x0_1, .int .i64 x0_2, .int .i64 x0_3, .int .i64 x0_4, .int .i64 x0_5, .slice A28 x0_6.length c28, .slice A29 x0_7.length c29, .slice A30 x0_8.length c30] 47 (0, 0)) by rw [hw]; exact lw_put9 BZ.out (.int .i64 x0_0) (.int .i64 x0_1) (.int .i64 x0_2) (.int .i64 x0_3) (.int .i64 x0_4) (.int .i64 x0_5) (.slice A28 x0_6.length c28) (.slice A29 x0_7.length c29) (.slice A30 x0_8.length c30)); clear hw BZ; have Ch35 := Aside0.mk (Kept.refl w34 (fun k_ => ¬ k_ = gb32)); clear cz0 cz1 cz2 cz3 cz4 cz5 cz6 cz7 cz8 cf0 cf1 cf2 cf3 cf4 cf5 cf6 cf7 cf8; obtain ⟨ccgb32_0, ccgb32_1, ccgb32_2, ccgb32_3, ccgb32_4, ccgb32_5, ccgb32_6, ccgb32_7, ccgb32_8⟩ := lw_cells9 (blk_kept BKgb32.out Ch35.out (fun h_ => h_ rfl))) | ((with_reducible refine gate_callee (f := 31) rfl ?_); refine goesL_ (some 22) rfl rfl Try.func31 (by kernel_rfl) rfl #[.agg #[.int .i64 x0_0, .int .i64 x0_1, .int .i64 x0_2, .int .i64 x0_3, .int .i64 x0_4, .int .i64 x0_5, .slice A28 x0_6.length c28, .slice A29 x0_7.length c29, .slice A30 x0_8.length c30]] rfl (by (try simp only [List.map_toArray, List.map_cons, List.map_nil]); first | done | rfl) ?_; refine (impl_PartCoefs.calls k x0_0 x0_1 x0_2 x0_3 x0_4 x0_5 A28 c28 x0_6 A29 c29 x0_7 A30 c30 x0_8 z0 z1 _ (Kd.R_reads' (lw_Rheld RX28.out Ch27.out)).2.2 (lw_Rlen (lw_Rheld RX28.out Ch27.out)) (Kd.R_reads' (lw_Rheld RX29.out Ch27.out)).2.2 (lw_Rlen (lw_Rheld RX29.out Ch27.out)) (Kd.S_reads' (lw_Sheld RX30.out Ch27.out)).2.2 (lw_Slen (lw_Sheld RX30.out Ch27.out)) Ez.out).mono ?_; rintro e w37 ⟨v1, rfl, ho1, hb⟩; refine ⟨_, rfl, ?_⟩; have OCh8_Ch38 := Aside0.mk (show gb6 < w34.heap.size from Nat.lt_of_lt_of_le (blk_lt BKgb6.out) Ch8.out.1); have OCh18_Ch38 := Aside0.mk (show w17.heap.size ≤ w34.heap.size from Ch18.out.1); have OCh24_Ch38 := Aside0.mk (show gb21 < w34.heap.size from Nat.lt_of_lt_of_le (blk_lt BKgb21.out) Ch24.out.1); have OCh27_Ch38 := Aside0.mk (show w26.heap.size ≤ w34.heap.size from Ch27.out.1); have OCh35_Ch38 := Aside0.mk (show gb32 < w34.heap.size from Nat.lt_of_lt_of_le (blk_lt BKgb32.out) Ch35.out.1); have OBCh38 := Aside0.mk (show w.heap.size ≤ w34.heap.size from HB.out.size); obtain ⟨A39, c39, rfl⟩ := Kd.R_slice ho1; have RX39 := Aside0.mk (lw_Rcap ho1); clear ho1; have q0 := Aside0.mk (below_step HB.out hb); have q1 := Aside0.mk (Kept.below Ch8.out hb); have q2 := Aside0.mk (Kept.below Ch18.out hb); have q3 := Aside0.mk (Kept.below Ch24.out hb); have q4 := Aside0.mk (Kept.below Ch27.out hb); have q5 := Aside0.mk (Kept.below Ch35.out hb); clear HB Ch8 Ch18 Ch24 Ch27 Ch35; have HB := q0; have Ch8 := q1; have Ch18 := q2; have Ch24 := q3; have Ch27 := q4; have Ch35 := q5; clear q0 q1 q2 q3 q4 q5; clear hb; have Ch38 := Aside0.mk (Kept.refl w37 (fun k_ => ¬ (w34.heap.size ≤ k_ ∧ k_ < w37.heap.size))); clear ccgb32_0 ccgb32_1 ccgb32_2 ccgb32_3 ccgb32_4 ccgb32_5 ccgb32_6 ccgb32_7 ccgb32_8) | ((with_reducible refine gate_dst (N := 6) rfl ?_); refine box_event ?hg (N := 6) ?hd (cs := #[.int .i64 0, .slice none 0 0]) (t := 27) ?hr ?_; (case hd => rfl); (case hg => rfl); (case hr => first | (go_simp; done) | (go_simp; rfl)); intro gb41 hg w42 hbox hb; have GBgb41 := Aside0.mk (show w.heap.size ≤ gb41 by rw [hg]; exact HB.out.size); have GCh8_gb41 := Aside0.mk (show w7.heap.size ≤ gb41 by rw [hg]; exact Ch8.out.1); have GCh18_gb41 := Aside0.mk (show w17.heap.size ≤ gb41 by rw [hg]; exact Ch18.out.1); have GCh24_gb41 := Aside0.mk (show w23.heap.size ≤ gb41 by rw [hg]; exact Ch24.out.1); have GCh27_gb41 := Aside0.mk (show w26.heap.size ≤ gb41 by rw [hg]; exact Ch27.out.1); have GCh35_gb41 := Aside0.mk (show w34.heap.size ≤ gb41 by rw [hg]; exact Ch35.out.1); have GCh38_gb41 := Aside0.mk (show w37.heap.size ≤ gb41 by rw [hg]; exact Ch38.out.1); have q0 := Aside0.mk (below_step HB.out hb); have q1 := Aside0.mk (Kept.below Ch8.out hb); have q2 := Aside0.mk (Kept.below Ch18.out hb); have q3 := Aside0.mk (Kept.below Ch24.out hb); have q4 := Aside0.mk (Kept.below Ch27.out hb); have q5 := Aside0.mk (Kept.below Ch35.out hb); have q6 := Aside0.mk (Kept.below Ch38.out hb); clear HB Ch8 Ch18 Ch24 Ch27 Ch35 Ch38; have HB := q0; have Ch8 := q1; have Ch18 := q2; have Ch24 := q3; have Ch27 := q4; have Ch35 := q5; have Ch38 := q6; clear q0 q1 q2 q3 q4 q5 q6; clear hb; have BZ := Aside0.mk hbox; obtain ⟨cz0, cz1⟩ := lw_cells2 hbox; obtain ⟨cf0, cf1⟩ := lw_frz2 hbox; clear hbox hg) | ((with_reducible refine gate_store (t := 27) (p := 6) rfl ?_); refine store_event (t := 27) (p := 6) (v := ?vo_w43) (w1 := ((w42.setCell ⟨gb41, 0, none⟩ (.int .i64 z0)).setCell ⟨gb41, 1, none⟩ (.slice A39 z1.length c39))) ?hg ?ho ?hn ?hr ?_; (case ho => rfl); (case hg => rfl); (case hn => rfl); (case hr => first | (go_simp; done) | (go_simp; rfl)); intro w43 hw; have q0 := Aside0.mk (show Below w.heap.size w w43 by rw [hw]; exact lw_putb2 HB.out GBgb41.out (.int .i64 z0) (.slice A39 z1.length c39)); have q1 := Aside0.mk (show Kept w7 w43 (fun k_ => ¬ k_ = gb6) by rw [hw]; exact lw_putk2 Ch8.out (.inr GCh8_gb41.out) (.int .i64 z0) (.slice A39 z1.length c39)); have q2 := Aside0.mk (show Kept w17 w43 (fun k_ => ¬ (w11.heap.size ≤ k_ ∧ k_ < w17.heap.size)) by rw [hw]; exact lw_putk2 Ch18.out (.inr GCh18_gb41.out) (.int .i64 z0) (.slice A39 z1.length c39)); have q3 := Aside0.mk (show Kept w23 w43 (fun k_ => ¬ k_ = gb21) by rw [hw]; exact lw_putk2 Ch24.out (.inr GCh24_gb41.out) (.int .i64 z0) (.slice A39 z1.length c39)); have q4 := Aside0.mk (show Kept w26 w43 (fun k_ => ¬ (w23.heap.size ≤ k_ ∧ k_ < w26.heap.size)) by rw [hw]; exact lw_putk2 Ch27.out (.inr GCh27_gb41.out) (.int .i64 z0) (.slice A39 z1.length c39)); have q5 := Aside0.mk (show Kept w34 w43 (fun k_ => ¬ k_ = gb32) by rw [hw]; exact lw_putk2 Ch35.out (.inr GCh35_gb41.out) (.int .i64 z0) (.slice A39 z1.length c39)); have q6 := Aside0.mk (show Kept w37 w43 (fun k_ => ¬ (w34.heap.size ≤ k_ ∧ k_ < w37.heap.size)) by rw [hw]; exact lw_putk2 Ch38.out (.inr GCh38_gb41.out) (.int .i64 z0) (.slice A39 z1.length c39)); clear HB Ch8 Ch18 Ch24 Ch27 Ch35 Ch38; have HB := q0; have Ch8 := q1; have Ch18 := q2; have Ch24 := q3; have Ch27 := q4; have Ch35 := q5; have Ch38 := q6; clear q0 q1 q2 q3 q4 q5 q6; have BKgb41 := Aside0.mk (show w43.heap[gb41]? = some (.cells #[.int .i64 z0, .slice A39 z1.length c39] 27 (0, 0)) by rw [hw]; exact lw_put2 BZ.out (.int .i64 z0) (.slice A39 z1.length c39)); clear hw BZ; have Ch44 := Aside0.mk (Kept.refl w43 (fun k_ => ¬ k_ = gb41)); clear cz0 cz1 cf0 cf1; obtain ⟨ccgb41_0, ccgb41_1⟩ := lw_cells2 (blk_kept BKgb41.out Ch44.out (fun h_ => h_ rfl)); obtain ⟨ccgb21_0, ccgb21_1⟩ := lw_cells2 (blk_kept BKgb21.out Ch24.out (fun h_ => h_ rfl))) | ((with_reducible refine gate_callee (f := 23) rfl ?_); refine goesL_ (some 25) rfl rfl Try.func23 (by kernel_rfl) rfl #[.agg #[.int .i64 z0, .slice A39 z1.length c39], .agg #[.int .i64 y0, .slice A19 y1.length c19]] rfl (by (try simp only [List.map_toArray, List.map_cons, List.map_nil]); first | done | rfl) ?_; refine (laws_eqIntsResult.calls k z0 A39 c39 z1 y0 A19 c19 y1 true _ (Kd.R_reads' (lw_Rheld RX39.out Ch38.out)).2.2 (lw_Rlen (lw_Rheld RX39.out Ch38.out)) (Kd.R_reads' (lw_Rheld RX19.out Ch18.out)).2.2 (lw_Rlen (lw_Rheld RX19.out Ch18.out)) Er.out).mono ?_; rintro e w46 ⟨rfl, hb⟩; refine ⟨_, rfl, ?_⟩; have q0 := Aside0.mk (below_step HB.out hb); have q1 := Aside0.mk (Kept.below Ch8.out hb); have q2 := Aside0.mk (Kept.below Ch18.out hb); have q3 := Aside0.mk (Kept.below Ch24.out hb); have q4 := Aside0.mk (Kept.below Ch27.out hb); have q5 := Aside0.mk (Kept.below Ch35.out hb); have q6 := Aside0.mk (Kept.below Ch38.out hb); have q7 := Aside0.mk (Kept.below Ch44.out hb); clear HB Ch8 Ch18 Ch24 Ch27 Ch35 Ch38 Ch44; have HB := q0; have Ch8 := q1; have Ch18 := q2; have Ch24 := q3; have Ch27 := q4; have Ch35 := q5; have Ch38 := q6; have Ch44 := q7; clear q0 q1 q2 q3 q4 q5 q6 q7; clear hb; clear ccgb41_0 ccgb41_1 ccgb21_0 ccgb21_1))
  have q0 := Aside0.mk (below_drew1 HB.out)
  have q1 := Aside0.mk (Kept.drew Ch8.out)
  have q2 := Aside0.mk (Kept.drew Ch18.out)
  have q3 := Aside0.mk (Kept.drew Ch24.out)
  have q4 := Aside0.mk (Kept.drew Ch27.out)
  have q5 := Aside0.mk (Kept.drew Ch35.out)
  have q6 := Aside0.mk (Kept.drew Ch38.out)
  have q7 := Aside0.mk (Kept.drew Ch44.out)
  clear HB Ch8 Ch18 Ch24 Ch27 Ch35 Ch38 Ch44
  have HB := q0
  have Ch8 := q1
  have Ch18 := q2
  have Ch24 := q3
  have Ch27 := q4
  have Ch35 := q5
  have Ch38 := q6
  have Ch44 := q7
  clear q0 q1 q2 q3 q4 q5 q6 q7
  refine start_ (n := 5) (S := fun w' => w'.cell? ⟨gb32, 0, none⟩ = some (.int .i64 x0_0) ∧ w'.cell? ⟨gb32, 1, none⟩ = some (.int .i64 x0_1) ∧ w'.cell? ⟨gb32, 2, none⟩ = some (.int .i64 x0_2) ∧ w'.cell? ⟨gb32, 3, none⟩ = some (.int .i64 x0_3) ∧ w'.cell? ⟨gb32, 4, none⟩ = some (.int .i64 x0_4) ∧ w'.cell? ⟨gb32, 5, none⟩ = some (.int .i64 x0_5) ∧ w'.cell? ⟨gb32, 6, none⟩ = some (.slice A28 x0_6.length c28) ∧ w'.cell? ⟨gb32, 7, none⟩ = some (.slice A29 x0_7.length c29) ∧ w'.cell? ⟨gb32, 8, none⟩ = some (.slice A30 x0_8.length c30) ∧ w'.cell? ⟨gb6, 0, none⟩ = some (.int .i64 a0_0) ∧ w'.cell? ⟨gb6, 1, none⟩ = some (.int .i64 a0_1) ∧ w'.cell? ⟨gb6, 2, none⟩ = some (.int .i64 a0_2) ∧ w'.cell? ⟨gb6, 3, none⟩ = some (.int .i64 a0_3) ∧ w'.cell? ⟨gb6, 4, none⟩ = some (.int .i64 a0_4) ∧ w'.cell? ⟨gb6, 5, none⟩ = some (.int .i64 a0_5) ∧ w'.cell? ⟨gb6, 6, none⟩ = some (.slice A0_6 l0_6.length c0_6) ∧ w'.cell? ⟨gb6, 7, none⟩ = some (.slice A0_7 l0_7.length c0_7) ∧ w'.cell? ⟨gb6, 8, none⟩ = some (.slice A0_8 l0_8.length c0_8)) (ds := []) #[false, false, false, false, false] (by kernel_rfl) rfl rfl ⟨(blk_cell (blk_kept BKgb32.out Ch35.out (fun h_ => h_ rfl)) 0).trans rfl, (blk_cell (blk_kept BKgb32.out Ch35.out (fun h_ => h_ rfl)) 1).trans rfl, (blk_cell (blk_kept BKgb32.out Ch35.out (fun h_ => h_ rfl)) 2).trans rfl, (blk_cell (blk_kept BKgb32.out Ch35.out (fun h_ => h_ rfl)) 3).trans rfl, (blk_cell (blk_kept BKgb32.out Ch35.out (fun h_ => h_ rfl)) 4).trans rfl, (blk_cell (blk_kept BKgb32.out Ch35.out (fun h_ => h_ rfl)) 5).trans rfl, (blk_cell (blk_kept BKgb32.out Ch35.out (fun h_ => h_ rfl)) 6).trans rfl, (blk_cell (blk_kept BKgb32.out Ch35.out (fun h_ => h_ rfl)) 7).trans rfl, (blk_cell (blk_kept BKgb32.out Ch35.out (fun h_ => h_ rfl)) 8).trans rfl, (blk_cell (blk_kept BKgb6.out Ch8.out (fun h_ => h_ rfl)) 0).trans rfl, (blk_cell (blk_kept BKgb6.out Ch8.out (fun h_ => h_ rfl)) 1).trans rfl, (blk_cell (blk_kept BKgb6.out Ch8.out (fun h_ => h_ rfl)) 2).trans rfl, (blk_cell (blk_kept BKgb6.out Ch8.out (fun h_ => h_ rfl)) 3).trans rfl, (blk_cell (blk_kept BKgb6.out Ch8.out (fun h_ => h_ rfl)) 4).trans rfl, (blk_cell (blk_kept BKgb6.out Ch8.out (fun h_ => h_ rfl)) 5).trans rfl, (blk_cell (blk_kept BKgb6.out Ch8.out (fun h_ => h_ rfl)) 6).trans rfl, (blk_cell (blk_kept BKgb6.out Ch8.out (fun h_ => h_ rfl)) 7).trans rfl, (blk_cell (blk_kept BKgb6.out Ch8.out (fun h_ => h_ rfl)) 8).trans rfl⟩ (fun hHeld => ?_)
  generalize w46.drew = w47 at HB Ch8 Ch18 Ch24 Ch27 Ch35 Ch38 Ch44 hHeld ⊢
  refine take_ (i := 0) (N := some 27) (v := ?_) (a' := ?_) #[true, false, false, false, false] rfl rfl (by kernel_rfl) (fun _ _ _ h => h) (Or.inl ⟨by rfl, ?_⟩) hHeld ?_ ?_
  rotate_left
  · rintro w' ⟨s0, s1, s2, s3, s4, s5, s6, s7, s8, s9, s10, s11, s12, s13, s14, s15, s16, s17⟩
    go_simp
    with_reducible rfl
  rotate_left
  · simp only [Act.put, List.setIfInBounds_toArray, List.set_cons_zero, List.set_cons_succ, i64_w, i32_w]
    rfl
  refine take_ (i := 1) (N := some 28) (v := ?_) (a' := ?_) #[true, true, false, false, false] rfl rfl (by kernel_rfl) (fun _ _ _ h => h) (Or.inl ⟨by rfl, ?_⟩) hHeld ?_ ?_
  rotate_left
  · rintro w' ⟨s0, s1, s2, s3, s4, s5, s6, s7, s8, s9, s10, s11, s12, s13, s14, s15, s16, s17⟩
    go_simp
    with_reducible rfl
  rotate_left
  · simp only [Act.put, List.setIfInBounds_toArray, List.set_cons_zero, List.set_cons_succ, i64_w, i32_w]
    rfl
  refine one_ (i := 2) (N := some 29) #[true, true, true, false, false] rfl rfl (by kernel_rfl) (by decide) (fun K hK => ?_)
  refine goes_ Try.func30 (by kernel_rfl) rfl #[.agg #[.int .i64 a0_0, .int .i64 a0_1, .int .i64 a0_2, .int .i64 a0_3, .int .i64 a0_4, .int .i64 a0_5, .slice A0_6 l0_6.length c0_6, .slice A0_7 l0_7.length c0_7, .slice A0_8 l0_8.length c0_8]] (by rfl) rfl rfl (by (try simp only [List.map_toArray, List.map_cons, List.map_nil]); first | done | rfl) ?_
  refine (laws_toPart.calls k a0_0 a0_1 a0_2 a0_3 a0_4 a0_5 A0_6 c0_6 l0_6 A0_7 c0_7 l0_7 A0_8 c0_8 l0_8 x0_0 x0_1 x0_2 x0_3 x0_4 x0_5 x0_6 x0_7 x0_8 _ (Kd.C_below HR0_6.out HB.out) HC0_6.out (Kd.C_below HR0_7.out HB.out) HC0_7.out (Kd.C_below HR0_8.out HB.out) HC0_8.out Eto0.out).mono ?_
  rintro e w48 ⟨v6, v7, v8, rfl, ho6, ho7, ho8, hb⟩
  refine ⟨_, rfl, ?_⟩
  have OCh8_Ch49 := Aside0.mk (show gb6 < w47.heap.size from Nat.lt_of_lt_of_le (blk_lt BKgb6.out) Ch8.out.1)
  have OCh18_Ch49 := Aside0.mk (show w17.heap.size ≤ w47.heap.size from Ch18.out.1)
  have OCh24_Ch49 := Aside0.mk (show gb21 < w47.heap.size from Nat.lt_of_lt_of_le (blk_lt BKgb21.out) Ch24.out.1)
  have OCh27_Ch49 := Aside0.mk (show w26.heap.size ≤ w47.heap.size from Ch27.out.1)
  have OCh35_Ch49 := Aside0.mk (show gb32 < w47.heap.size from Nat.lt_of_lt_of_le (blk_lt BKgb32.out) Ch35.out.1)
  have OCh38_Ch49 := Aside0.mk (show w37.heap.size ≤ w47.heap.size from Ch38.out.1)
  have OCh44_Ch49 := Aside0.mk (show gb41 < w47.heap.size from Nat.lt_of_lt_of_le (blk_lt BKgb41.out) Ch44.out.1)
  have OBCh49 := Aside0.mk (show w.heap.size ≤ w47.heap.size from HB.out.size)
  obtain ⟨A50, c50, rfl⟩ := Kd.R_slice ho6
  have RX50 := Aside0.mk (lw_Rcap ho6)
  obtain ⟨A51, c51, rfl⟩ := Kd.R_slice ho7
  have RX51 := Aside0.mk (lw_Rcap ho7)
  obtain ⟨A52, c52, rfl⟩ := Kd.S_slice ho8
  have RX52 := Aside0.mk (lw_Scap ho8)
  clear ho6 ho7 ho8
  have q0 := Aside0.mk (below_step HB.out hb)
  have q1 := Aside0.mk (Kept.below Ch8.out hb)
  have q2 := Aside0.mk (Kept.below Ch18.out hb)
  have q3 := Aside0.mk (Kept.below Ch24.out hb)
  have q4 := Aside0.mk (Kept.below Ch27.out hb)
  have q5 := Aside0.mk (Kept.below Ch35.out hb)
  have q6 := Aside0.mk (Kept.below Ch38.out hb)
  have q7 := Aside0.mk (Kept.below Ch44.out hb)
  clear HB Ch8 Ch18 Ch24 Ch27 Ch35 Ch38 Ch44
  have HB := q0
  have Ch8 := q1
  have Ch18 := q2
  have Ch24 := q3
  have Ch27 := q4
  have Ch35 := q5
  have Ch38 := q6
  have Ch44 := q7
  clear q0 q1 q2 q3 q4 q5 q6 q7
  clear hb
  have Ch49 := Aside0.mk (Kept.refl w48 (fun k_ => ¬ (w47.heap.size ≤ k_ ∧ k_ < w48.heap.size)))
  refine hK.out _ _ ⟨(blk_cell (blk_kept BKgb32.out Ch35.out (fun h_ => h_ rfl)) 0).trans rfl, (blk_cell (blk_kept BKgb32.out Ch35.out (fun h_ => h_ rfl)) 1).trans rfl, (blk_cell (blk_kept BKgb32.out Ch35.out (fun h_ => h_ rfl)) 2).trans rfl, (blk_cell (blk_kept BKgb32.out Ch35.out (fun h_ => h_ rfl)) 3).trans rfl, (blk_cell (blk_kept BKgb32.out Ch35.out (fun h_ => h_ rfl)) 4).trans rfl, (blk_cell (blk_kept BKgb32.out Ch35.out (fun h_ => h_ rfl)) 5).trans rfl, (blk_cell (blk_kept BKgb32.out Ch35.out (fun h_ => h_ rfl)) 6).trans rfl, (blk_cell (blk_kept BKgb32.out Ch35.out (fun h_ => h_ rfl)) 7).trans rfl, (blk_cell (blk_kept BKgb32.out Ch35.out (fun h_ => h_ rfl)) 8).trans rfl, (blk_cell (blk_kept BKgb6.out Ch8.out (fun h_ => h_ rfl)) 0).trans rfl, (blk_cell (blk_kept BKgb6.out Ch8.out (fun h_ => h_ rfl)) 1).trans rfl, (blk_cell (blk_kept BKgb6.out Ch8.out (fun h_ => h_ rfl)) 2).trans rfl, (blk_cell (blk_kept BKgb6.out Ch8.out (fun h_ => h_ rfl)) 3).trans rfl, (blk_cell (blk_kept BKgb6.out Ch8.out (fun h_ => h_ rfl)) 4).trans rfl, (blk_cell (blk_kept BKgb6.out Ch8.out (fun h_ => h_ rfl)) 5).trans rfl, (blk_cell (blk_kept BKgb6.out Ch8.out (fun h_ => h_ rfl)) 6).trans rfl, (blk_cell (blk_kept BKgb6.out Ch8.out (fun h_ => h_ rfl)) 7).trans rfl, (blk_cell (blk_kept BKgb6.out Ch8.out (fun h_ => h_ rfl)) 8).trans rfl⟩ (fun hHeld => ?_)
  clear hK K
  refine norm_ (a' := ?_) ?_ ?_
  rotate_left
  · show Act.put _ (some 29) _ = _
    simp only [Act.put, List.setIfInBounds_toArray, List.set_cons_zero, List.set_cons_succ, i64_w, i32_w]
    rfl
  refine one_ (i := 3) (N := some 30) #[true, true, true, true, false] rfl rfl (by kernel_rfl) (by decide) (fun K hK => ?_)
  refine goes_ Try.func32 (by kernel_rfl) rfl #[.agg #[.int .i64 x0_0, .int .i64 x0_1, .int .i64 x0_2, .int .i64 x0_3, .int .i64 x0_4, .int .i64 x0_5, .slice A28 x0_6.length c28, .slice A29 x0_7.length c29, .slice A30 x0_8.length c30], .agg #[.int .i64 x0_0, .int .i64 x0_1, .int .i64 x0_2, .int .i64 x0_3, .int .i64 x0_4, .int .i64 x0_5, .slice A50 x0_6.length c50, .slice A51 x0_7.length c51, .slice A52 x0_8.length c52]] (by rfl) rfl rfl (by (try simp only [List.map_toArray, List.map_cons, List.map_nil]); first | done | rfl) ?_
  refine (laws_eqPart.calls k x0_0 x0_1 x0_2 x0_3 x0_4 x0_5 A28 c28 x0_6 A29 c29 x0_7 A30 c30 x0_8 x0_0 x0_1 x0_2 x0_3 x0_4 x0_5 A50 c50 x0_6 A51 c51 x0_7 A52 c52 x0_8 true _ (Kd.R_reads' (lw_Rheld RX28.out Ch27.out)).2.2 (lw_Rlen (lw_Rheld RX28.out Ch27.out)) (Kd.R_reads' (lw_Rheld RX29.out Ch27.out)).2.2 (lw_Rlen (lw_Rheld RX29.out Ch27.out)) (Kd.S_reads' (lw_Sheld RX30.out Ch27.out)).2.2 (lw_Slen (lw_Sheld RX30.out Ch27.out)) (Kd.R_reads' (lw_Rheld RX50.out Ch49.out)).2.2 (lw_Rlen (lw_Rheld RX50.out Ch49.out)) (Kd.R_reads' (lw_Rheld RX51.out Ch49.out)).2.2 (lw_Rlen (lw_Rheld RX51.out Ch49.out)) (Kd.S_reads' (lw_Sheld RX52.out Ch49.out)).2.2 (lw_Slen (lw_Sheld RX52.out Ch49.out)) Ep0.out).mono ?_
  rintro e w54 ⟨rfl, hb⟩
  refine ⟨_, rfl, ?_⟩
  have q0 := Aside0.mk (below_step HB.out hb)
  have q1 := Aside0.mk (Kept.below Ch8.out hb)
  have q2 := Aside0.mk (Kept.below Ch18.out hb)
  have q3 := Aside0.mk (Kept.below Ch24.out hb)
  have q4 := Aside0.mk (Kept.below Ch27.out hb)
  have q5 := Aside0.mk (Kept.below Ch35.out hb)
  have q6 := Aside0.mk (Kept.below Ch38.out hb)
  have q7 := Aside0.mk (Kept.below Ch44.out hb)
  have q8 := Aside0.mk (Kept.below Ch49.out hb)
  clear HB Ch8 Ch18 Ch24 Ch27 Ch35 Ch38 Ch44 Ch49
  have HB := q0
  have Ch8 := q1
  have Ch18 := q2
  have Ch24 := q3
  have Ch27 := q4
  have Ch35 := q5
  have Ch38 := q6
  have Ch44 := q7
  have Ch49 := q8
  clear q0 q1 q2 q3 q4 q5 q6 q7 q8
  clear hb
  refine hK.out _ _ ⟨(blk_cell (blk_kept BKgb32.out Ch35.out (fun h_ => h_ rfl)) 0).trans rfl, (blk_cell (blk_kept BKgb32.out Ch35.out (fun h_ => h_ rfl)) 1).trans rfl, (blk_cell (blk_kept BKgb32.out Ch35.out (fun h_ => h_ rfl)) 2).trans rfl, (blk_cell (blk_kept BKgb32.out Ch35.out (fun h_ => h_ rfl)) 3).trans rfl, (blk_cell (blk_kept BKgb32.out Ch35.out (fun h_ => h_ rfl)) 4).trans rfl, (blk_cell (blk_kept BKgb32.out Ch35.out (fun h_ => h_ rfl)) 5).trans rfl, (blk_cell (blk_kept BKgb32.out Ch35.out (fun h_ => h_ rfl)) 6).trans rfl, (blk_cell (blk_kept BKgb32.out Ch35.out (fun h_ => h_ rfl)) 7).trans rfl, (blk_cell (blk_kept BKgb32.out Ch35.out (fun h_ => h_ rfl)) 8).trans rfl, (blk_cell (blk_kept BKgb6.out Ch8.out (fun h_ => h_ rfl)) 0).trans rfl, (blk_cell (blk_kept BKgb6.out Ch8.out (fun h_ => h_ rfl)) 1).trans rfl, (blk_cell (blk_kept BKgb6.out Ch8.out (fun h_ => h_ rfl)) 2).trans rfl, (blk_cell (blk_kept BKgb6.out Ch8.out (fun h_ => h_ rfl)) 3).trans rfl, (blk_cell (blk_kept BKgb6.out Ch8.out (fun h_ => h_ rfl)) 4).trans rfl, (blk_cell (blk_kept BKgb6.out Ch8.out (fun h_ => h_ rfl)) 5).trans rfl, (blk_cell (blk_kept BKgb6.out Ch8.out (fun h_ => h_ rfl)) 6).trans rfl, (blk_cell (blk_kept BKgb6.out Ch8.out (fun h_ => h_ rfl)) 7).trans rfl, (blk_cell (blk_kept BKgb6.out Ch8.out (fun h_ => h_ rfl)) 8).trans rfl⟩ (fun hHeld => ?_)
  clear hK K
  refine norm_ (a' := ?_) ?_ ?_
  rotate_left
  · show Act.put _ (some 30) _ = _
    simp only [Act.put, List.setIfInBounds_toArray, List.set_cons_zero, List.set_cons_succ, i64_w, i32_w]
    rfl
  refine pure_ (i := 4) (N := some 31) (v := ?_) (a' := ?_) #[true, true, true, true, true] rfl rfl (by kernel_rfl) (fun _ _ _ h => h) (Or.inl ⟨by rfl, ?_⟩) ?_ ?_
  rotate_left
  · intro w'
    go_simp
    with_reducible rfl
  rotate_left
  · simp only [Act.put, List.setIfInBounds_toArray, List.set_cons_zero, List.set_cons_succ, i64_w, i32_w]
    rfl
  refine done_ (by kernel_rfl) ?_
  clear hHeld
  obtain ⟨ccgb32_0, ccgb32_1, ccgb32_2, ccgb32_3, ccgb32_4, ccgb32_5, ccgb32_6, ccgb32_7, ccgb32_8⟩ := lw_cells9 (blk_kept BKgb32.out Ch35.out (fun h_ => h_ rfl))
  go_wp2_with (first | ((with_reducible refine gate_callee (f := 33) rfl ?_); refine goesL_ (some 34) rfl rfl Try.func33 (by kernel_rfl) rfl #[.agg #[.int .i64 x0_0, .int .i64 x0_1, .int .i64 x0_2, .int .i64 x0_3, .int .i64 x0_4, .int .i64 x0_5, .slice A28 x0_6.length c28, .slice A29 x0_7.length c29, .slice A30 x0_8.length c30], .int .i64 1] rfl (by (try simp only [List.map_toArray, List.map_cons, List.map_nil]); first | done | rfl) ?_; refine (laws_markPart.calls k _ _ _ _ _ _ x0_0 x0_1 x0_2 x0_3 x0_4 x0_5 x0_6 x0_7 x0_8 1 k0 xm0_6 xm0_7 xm0_8 w _ HB.out (Kd.R_lower (Kd.R_tight rfl (lw_Rheld RX28.out Ch27.out)) OBCh27.out) (Kd.R_lower (Kd.R_tight rfl (lw_Rheld RX29.out Ch27.out)) OBCh27.out) (Kd.S_lower (lw_Sheld RX30.out Ch27.out) OBCh27.out) (fun k_ hi hj => (RX28.out.1 k_ hi.symm).1 hj) (fun k_ hi hs => hs.1.1 hi) (fun k_ hi hs => hs.1.2 hi) Em0.out).mono ?_; rintro e w55 ⟨rfl, hy0, hy1, hy2, hb, hkp⟩; refine ⟨_, rfl, ?_⟩; have hkr := Kept.mono hkp (S' := fun k_ => w23.heap.size ≤ k_ ∧ k_ < w26.heap.size) (fun k_ hs => Or.elim hs (fun h1_ => (RX28.out.1 k_ h1_.symm).2) (fun h2_ => Or.elim h2_ (fun h3_ => (RX29.out.1 k_ h3_.symm).2) (fun h4_ => h4_.2))); have q0 := Aside0.mk hb; have q1 := Aside0.mk (Kept.then_ Ch8.out hkr (fun k_ hk_ => .inl (fun hc_ => by have h_ := OCh8_Ch27.out; omega))); have q2 := Aside0.mk (Kept.then_ Ch18.out hkr (fun k_ hk_ => .inl (fun hc_ => by have h_ := OCh18_Ch27.out; omega))); have q3 := Aside0.mk (Kept.then_ Ch24.out hkr (fun k_ hk_ => .inl (fun hc_ => by have h_ := OCh24_Ch27.out; omega))); have q4 := Aside0.mk (Kept.then_ Ch35.out hkr (fun k_ hk_ => .inl (fun hc_ => by have h_ := GCh27_gb32.out; omega))); have q5 := Aside0.mk (Kept.then_ Ch38.out hkr (fun k_ hk_ => .inl (fun hc_ => by have h_ := OCh27_Ch38.out; omega))); have q6 := Aside0.mk (Kept.then_ Ch44.out hkr (fun k_ hk_ => .inl (fun hc_ => by have h_ := GCh27_gb41.out; omega))); clear HB Ch8 Ch18 Ch24 Ch35 Ch38 Ch44; have HB := q0; have Ch8 := q1; have Ch18 := q2; have Ch24 := q3; have Ch35 := q4; have Ch38 := q5; have Ch44 := q6; clear q0 q1 q2 q3 q4 q5 q6; clear Ch27 hb hkp hkr; clear hy0 hy1 hy2; clear ccgb32_0 ccgb32_1 ccgb32_2 ccgb32_3 ccgb32_4 ccgb32_5 ccgb32_6 ccgb32_7 ccgb32_8; obtain ⟨ccgb41_0, ccgb41_1⟩ := lw_cells2 (blk_kept BKgb41.out Ch44.out (fun h_ => h_ rfl)); obtain ⟨ccgb21_0, ccgb21_1⟩ := lw_cells2 (blk_kept BKgb21.out Ch24.out (fun h_ => h_ rfl))) | (go_at_call 23; refine (laws_eqIntsResult.calls k z0 A39 c39 z1 y0 A19 c19 y1 true _ (Kd.R_reads' (lw_Rheld RX39.out Ch38.out)).2.2 (lw_Rlen (lw_Rheld RX39.out Ch38.out)) (Kd.R_reads' (lw_Rheld RX19.out Ch18.out)).2.2 (lw_Rlen (lw_Rheld RX19.out Ch18.out)) Er.out).mono ?_; rintro e w56 ⟨rfl, hb⟩; have q0 := Aside0.mk (below_step HB.out hb); have q1 := Aside0.mk (Kept.below Ch8.out hb); have q2 := Aside0.mk (Kept.below Ch18.out hb); have q3 := Aside0.mk (Kept.below Ch24.out hb); have q4 := Aside0.mk (Kept.below Ch35.out hb); have q5 := Aside0.mk (Kept.below Ch38.out hb); have q6 := Aside0.mk (Kept.below Ch44.out hb); clear HB Ch8 Ch18 Ch24 Ch35 Ch38 Ch44; have HB := q0; have Ch8 := q1; have Ch18 := q2; have Ch24 := q3; have Ch35 := q4; have Ch38 := q5; have Ch44 := q6; clear q0 q1 q2 q3 q4 q5 q6; clear hb; clear ccgb41_0 ccgb41_1 ccgb21_0 ccgb21_1; obtain ⟨ccgb41_0, ccgb41_1⟩ := lw_cells2 (blk_kept BKgb41.out Ch44.out (fun h_ => h_ rfl))) | ((with_reducible refine gate_callee (f := 26) rfl ?_); refine goesL_ (some 45) rfl rfl Try.func26 (by kernel_rfl) rfl #[.agg #[.int .i64 z0, .slice A39 z1.length c39], .int .i64 1] rfl (by (try simp only [List.map_toArray, List.map_cons, List.map_nil]); first | done | rfl) ?_; refine (laws_markIntsResult.calls k z0 _ _ z1 1 q zm1 w _ HB.out (Kd.R_lower (Kd.R_tight rfl (lw_Rheld RX39.out Ch38.out)) OBCh38.out) Emr.out).mono ?_; rintro e w57 ⟨rfl, hy0, hb, hkp⟩; refine ⟨_, rfl, ?_⟩; have hkr := Kept.mono hkp (S' := fun k_ => w34.heap.size ≤ k_ ∧ k_ < w37.heap.size) (fun k_ hs => (RX39.out.1 k_ hs.symm).2); have q0 := Aside0.mk hb; have q1 := Aside0.mk (Kept.then_ Ch8.out hkr (fun k_ hk_ => .inl (fun hc_ => by have h_ := OCh8_Ch38.out; omega))); have q2 := Aside0.mk (Kept.then_ Ch18.out hkr (fun k_ hk_ => .inl (fun hc_ => by have h_ := OCh18_Ch38.out; omega))); have q3 := Aside0.mk (Kept.then_ Ch24.out hkr (fun k_ hk_ => .inl (fun hc_ => by have h_ := OCh24_Ch38.out; omega))); have q4 := Aside0.mk (Kept.then_ Ch35.out hkr (fun k_ hk_ => .inl (fun hc_ => by have h_ := OCh35_Ch38.out; omega))); have q5 := Aside0.mk (Kept.then_ Ch44.out hkr (fun k_ hk_ => .inl (fun hc_ => by have h_ := GCh38_gb41.out; omega))); clear HB Ch8 Ch18 Ch24 Ch35 Ch44; have HB := q0; have Ch8 := q1; have Ch18 := q2; have Ch24 := q3; have Ch35 := q4; have Ch44 := q5; clear q0 q1 q2 q3 q4 q5; clear Ch38 hb hkp hkr; have RX59 := Aside0.mk (lw_Rcap hy0); have Ch58 := Aside0.mk (Kept.refl w57 (fun k_ => ¬ (w.heap.size ≤ k_ ∧ k_ < w57.heap.size))); have HL0 := (Kd.R_reads' hy0).1; clear hy0; have BKgb41' := Aside0.mk (show w43.heap[gb41]? = some (.cells #[.int .i64 z0, .slice A39 zm1.length c39] 27 (0, 0)) by have h_ := BKgb41.out; rw [HL0] at h_; exact h_); clear BKgb41; have BKgb41 := BKgb41'; clear BKgb41'; clear HL0; clear ccgb41_0 ccgb41_1; obtain ⟨ccgb41_0, ccgb41_1⟩ := lw_cells2 (blk_kept BKgb41.out Ch44.out (fun h_ => h_ rfl))) | ((with_reducible refine gate_callee (f := 27) rfl ?_); refine goesL_ (some 48) rfl rfl Try.func27 (by kernel_rfl) rfl #[.agg #[.int .i64 z0, .slice A39 zm1.length c39], .int .i64 1] rfl (by (try simp only [List.map_toArray, List.map_cons, List.map_nil]); first | done | rfl) ?_; refine (laws_heldIntsResult.calls k z0 A39 c39 zm1 1 q _ (Kd.R_reads' (lw_Rheld RX59.out Ch58.out)).2.2 (lw_Rlen (lw_Rheld RX59.out Ch58.out)) Eh.out).mono ?_; rintro e w61 ⟨rfl, hb⟩; refine ⟨_, rfl, ?_⟩; have q0 := Aside0.mk (below_step HB.out hb); have q1 := Aside0.mk (Kept.below Ch8.out hb); have q2 := Aside0.mk (Kept.below Ch18.out hb); have q3 := Aside0.mk (Kept.below Ch24.out hb); have q4 := Aside0.mk (Kept.below Ch35.out hb); have q5 := Aside0.mk (Kept.below Ch44.out hb); have q6 := Aside0.mk (Kept.below Ch58.out hb); clear HB Ch8 Ch18 Ch24 Ch35 Ch44 Ch58; have HB := q0; have Ch8 := q1; have Ch18 := q2; have Ch24 := q3; have Ch35 := q4; have Ch44 := q5; have Ch58 := q6; clear q0 q1 q2 q3 q4 q5 q6; clear hb; clear ccgb41_0 ccgb41_1; obtain ⟨ccgb6_0, ccgb6_1, ccgb6_2, ccgb6_3, ccgb6_4, ccgb6_5, ccgb6_6, ccgb6_7, ccgb6_8⟩ := lw_cells9 (blk_kept BKgb6.out Ch8.out (fun h_ => h_ rfl))) | ((with_reducible refine gate_callee (f := 30) rfl ?_); refine goesL_ (some 55) rfl rfl Try.func30 (by kernel_rfl) rfl #[.agg #[.int .i64 a0_0, .int .i64 a0_1, .int .i64 a0_2, .int .i64 a0_3, .int .i64 a0_4, .int .i64 a0_5, .slice A0_6 l0_6.length c0_6, .slice A0_7 l0_7.length c0_7, .slice A0_8 l0_8.length c0_8]] rfl (by (try simp only [List.map_toArray, List.map_cons, List.map_nil]); first | done | rfl) ?_; refine (laws_toPart.calls k a0_0 a0_1 a0_2 a0_3 a0_4 a0_5 A0_6 c0_6 l0_6 A0_7 c0_7 l0_7 A0_8 c0_8 l0_8 x0_0 x0_1 x0_2 x0_3 x0_4 x0_5 x0_6 x0_7 x0_8 _ (Kd.C_below HR0_6.out HB.out) HC0_6.out (Kd.C_below HR0_7.out HB.out) HC0_7.out (Kd.C_below HR0_8.out HB.out) HC0_8.out Eto0.out).mono ?_; rintro e w62 ⟨v6, v7, v8, rfl, ho6, ho7, ho8, hb⟩; refine ⟨_, rfl, ?_⟩; have OCh8_Ch63 := Aside0.mk (show gb6 < w61.heap.size from Nat.lt_of_lt_of_le (blk_lt BKgb6.out) Ch8.out.1); have OCh18_Ch63 := Aside0.mk (show w17.heap.size ≤ w61.heap.size from Ch18.out.1); have OCh24_Ch63 := Aside0.mk (show gb21 < w61.heap.size from Nat.lt_of_lt_of_le (blk_lt BKgb21.out) Ch24.out.1); have OCh35_Ch63 := Aside0.mk (show gb32 < w61.heap.size from Nat.lt_of_lt_of_le (blk_lt BKgb32.out) Ch35.out.1); have OCh44_Ch63 := Aside0.mk (show gb41 < w61.heap.size from Nat.lt_of_lt_of_le (blk_lt BKgb41.out) Ch44.out.1); have OCh58_Ch63 := Aside0.mk (show w57.heap.size ≤ w61.heap.size from Ch58.out.1); have OBCh63 := Aside0.mk (show w.heap.size ≤ w61.heap.size from HB.out.size); obtain ⟨A64, c64, rfl⟩ := Kd.R_slice ho6; have RX64 := Aside0.mk (lw_Rcap ho6); obtain ⟨A65, c65, rfl⟩ := Kd.R_slice ho7; have RX65 := Aside0.mk (lw_Rcap ho7); obtain ⟨A66, c66, rfl⟩ := Kd.S_slice ho8; have RX66 := Aside0.mk (lw_Scap ho8); clear ho6 ho7 ho8; have q0 := Aside0.mk (below_step HB.out hb); have q1 := Aside0.mk (Kept.below Ch8.out hb); have q2 := Aside0.mk (Kept.below Ch18.out hb); have q3 := Aside0.mk (Kept.below Ch24.out hb); have q4 := Aside0.mk (Kept.below Ch35.out hb); have q5 := Aside0.mk (Kept.below Ch44.out hb); have q6 := Aside0.mk (Kept.below Ch58.out hb); clear HB Ch8 Ch18 Ch24 Ch35 Ch44 Ch58; have HB := q0; have Ch8 := q1; have Ch18 := q2; have Ch24 := q3; have Ch35 := q4; have Ch44 := q5; have Ch58 := q6; clear q0 q1 q2 q3 q4 q5 q6; clear hb; have Ch63 := Aside0.mk (Kept.refl w62 (fun k_ => ¬ (w61.heap.size ≤ k_ ∧ k_ < w62.heap.size))); clear ccgb6_0 ccgb6_1 ccgb6_2 ccgb6_3 ccgb6_4 ccgb6_5 ccgb6_6 ccgb6_7 ccgb6_8) | ((with_reducible refine gate_callee (f := 31) rfl ?_); refine goesL_ (some 56) rfl rfl Try.func31 (by kernel_rfl) rfl #[.agg #[.int .i64 x0_0, .int .i64 x0_1, .int .i64 x0_2, .int .i64 x0_3, .int .i64 x0_4, .int .i64 x0_5, .slice A64 x0_6.length c64, .slice A65 x0_7.length c65, .slice A66 x0_8.length c66]] rfl (by (try simp only [List.map_toArray, List.map_cons, List.map_nil]); first | done | rfl) ?_; refine (impl_PartCoefs.calls k x0_0 x0_1 x0_2 x0_3 x0_4 x0_5 A64 c64 x0_6 A65 c65 x0_7 A66 c66 x0_8 z0 z1 _ (Kd.R_reads' (lw_Rheld RX64.out Ch63.out)).2.2 (lw_Rlen (lw_Rheld RX64.out Ch63.out)) (Kd.R_reads' (lw_Rheld RX65.out Ch63.out)).2.2 (lw_Rlen (lw_Rheld RX65.out Ch63.out)) (Kd.S_reads' (lw_Sheld RX66.out Ch63.out)).2.2 (lw_Slen (lw_Sheld RX66.out Ch63.out)) Ez.out).mono ?_; rintro e w68 ⟨v1, rfl, ho1, hb⟩; refine ⟨_, rfl, ?_⟩; have OCh8_Ch69 := Aside0.mk (show gb6 < w62.heap.size from Nat.lt_of_lt_of_le (blk_lt BKgb6.out) Ch8.out.1); have OCh18_Ch69 := Aside0.mk (show w17.heap.size ≤ w62.heap.size from Ch18.out.1); have OCh24_Ch69 := Aside0.mk (show gb21 < w62.heap.size from Nat.lt_of_lt_of_le (blk_lt BKgb21.out) Ch24.out.1); have OCh35_Ch69 := Aside0.mk (show gb32 < w62.heap.size from Nat.lt_of_lt_of_le (blk_lt BKgb32.out) Ch35.out.1); have OCh44_Ch69 := Aside0.mk (show gb41 < w62.heap.size from Nat.lt_of_lt_of_le (blk_lt BKgb41.out) Ch44.out.1); have OCh58_Ch69 := Aside0.mk (show w57.heap.size ≤ w62.heap.size from Ch58.out.1); have OCh63_Ch69 := Aside0.mk (show w62.heap.size ≤ w62.heap.size from Ch63.out.1); have OBCh69 := Aside0.mk (show w.heap.size ≤ w62.heap.size from HB.out.size); obtain ⟨A70, c70, rfl⟩ := Kd.R_slice ho1; have RX70 := Aside0.mk (lw_Rcap ho1); clear ho1; have q0 := Aside0.mk (below_step HB.out hb); have q1 := Aside0.mk (Kept.below Ch8.out hb); have q2 := Aside0.mk (Kept.below Ch18.out hb); have q3 := Aside0.mk (Kept.below Ch24.out hb); have q4 := Aside0.mk (Kept.below Ch35.out hb); have q5 := Aside0.mk (Kept.below Ch44.out hb); have q6 := Aside0.mk (Kept.below Ch58.out hb); have q7 := Aside0.mk (Kept.below Ch63.out hb); clear HB Ch8 Ch18 Ch24 Ch35 Ch44 Ch58 Ch63; have HB := q0; have Ch8 := q1; have Ch18 := q2; have Ch24 := q3; have Ch35 := q4; have Ch44 := q5; have Ch58 := q6; have Ch63 := q7; clear q0 q1 q2 q3 q4 q5 q6 q7; clear hb; have Ch69 := Aside0.mk (Kept.refl w68 (fun k_ => ¬ (w62.heap.size ≤ k_ ∧ k_ < w68.heap.size))); clear Ch63) | ((with_reducible refine gate_dst (N := 10) rfl ?_); refine box_event ?hg (N := 10) ?hd (cs := #[.int .i64 0, .slice none 0 0]) (t := 27) ?hr ?_; (case hd => rfl); (case hg => rfl); (case hr => first | (go_simp; done) | (go_simp; rfl)); intro gb72 hg w73 hbox hb; have GBgb72 := Aside0.mk (show w.heap.size ≤ gb72 by rw [hg]; exact HB.out.size); have GCh8_gb72 := Aside0.mk (show w7.heap.size ≤ gb72 by rw [hg]; exact Ch8.out.1); have GCh18_gb72 := Aside0.mk (show w17.heap.size ≤ gb72 by rw [hg]; exact Ch18.out.1); have GCh24_gb72 := Aside0.mk (show w23.heap.size ≤ gb72 by rw [hg]; exact Ch24.out.1); have GCh35_gb72 := Aside0.mk (show w34.heap.size ≤ gb72 by rw [hg]; exact Ch35.out.1); have GCh44_gb72 := Aside0.mk (show w43.heap.size ≤ gb72 by rw [hg]; exact Ch44.out.1); have GCh58_gb72 := Aside0.mk (show w57.heap.size ≤ gb72 by rw [hg]; exact Ch58.out.1); have GCh69_gb72 := Aside0.mk (show w68.heap.size ≤ gb72 by rw [hg]; exact Ch69.out.1); have q0 := Aside0.mk (below_step HB.out hb); have q1 := Aside0.mk (Kept.below Ch8.out hb); have q2 := Aside0.mk (Kept.below Ch18.out hb); have q3 := Aside0.mk (Kept.below Ch24.out hb); have q4 := Aside0.mk (Kept.below Ch35.out hb); have q5 := Aside0.mk (Kept.below Ch44.out hb); have q6 := Aside0.mk (Kept.below Ch58.out hb); have q7 := Aside0.mk (Kept.below Ch69.out hb); clear HB Ch8 Ch18 Ch24 Ch35 Ch44 Ch58 Ch69; have HB := q0; have Ch8 := q1; have Ch18 := q2; have Ch24 := q3; have Ch35 := q4; have Ch44 := q5; have Ch58 := q6; have Ch69 := q7; clear q0 q1 q2 q3 q4 q5 q6 q7; clear hb; have BZ := Aside0.mk hbox; obtain ⟨cz0, cz1⟩ := lw_cells2 hbox; obtain ⟨cf0, cf1⟩ := lw_frz2 hbox; clear hbox hg) | ((with_reducible refine gate_store (t := 27) (p := 10) rfl ?_); refine store_event (t := 27) (p := 10) (v := ?vo_w74) (w1 := ((w73.setCell ⟨gb72, 0, none⟩ (.int .i64 z0)).setCell ⟨gb72, 1, none⟩ (.slice A70 z1.length c70))) ?hg ?ho ?hn ?hr ?_; (case ho => rfl); (case hg => rfl); (case hn => rfl); (case hr => first | (go_simp; done) | (go_simp; rfl)); intro w74 hw; have q0 := Aside0.mk (show Below w.heap.size w w74 by rw [hw]; exact lw_putb2 HB.out GBgb72.out (.int .i64 z0) (.slice A70 z1.length c70)); have q1 := Aside0.mk (show Kept w7 w74 (fun k_ => ¬ k_ = gb6) by rw [hw]; exact lw_putk2 Ch8.out (.inr GCh8_gb72.out) (.int .i64 z0) (.slice A70 z1.length c70)); have q2 := Aside0.mk (show Kept w17 w74 (fun k_ => ¬ (w11.heap.size ≤ k_ ∧ k_ < w17.heap.size)) by rw [hw]; exact lw_putk2 Ch18.out (.inr GCh18_gb72.out) (.int .i64 z0) (.slice A70 z1.length c70)); have q3 := Aside0.mk (show Kept w23 w74 (fun k_ => ¬ k_ = gb21) by rw [hw]; exact lw_putk2 Ch24.out (.inr GCh24_gb72.out) (.int .i64 z0) (.slice A70 z1.length c70)); have q4 := Aside0.mk (show Kept w34 w74 (fun k_ => ¬ k_ = gb32) by rw [hw]; exact lw_putk2 Ch35.out (.inr GCh35_gb72.out) (.int .i64 z0) (.slice A70 z1.length c70)); have q5 := Aside0.mk (show Kept w43 w74 (fun k_ => ¬ k_ = gb41) by rw [hw]; exact lw_putk2 Ch44.out (.inr GCh44_gb72.out) (.int .i64 z0) (.slice A70 z1.length c70)); have q6 := Aside0.mk (show Kept w57 w74 (fun k_ => ¬ (w.heap.size ≤ k_ ∧ k_ < w57.heap.size)) by rw [hw]; exact lw_putk2 Ch58.out (.inr GCh58_gb72.out) (.int .i64 z0) (.slice A70 z1.length c70)); have q7 := Aside0.mk (show Kept w68 w74 (fun k_ => ¬ (w62.heap.size ≤ k_ ∧ k_ < w68.heap.size)) by rw [hw]; exact lw_putk2 Ch69.out (.inr GCh69_gb72.out) (.int .i64 z0) (.slice A70 z1.length c70)); clear HB Ch8 Ch18 Ch24 Ch35 Ch44 Ch58 Ch69; have HB := q0; have Ch8 := q1; have Ch18 := q2; have Ch24 := q3; have Ch35 := q4; have Ch44 := q5; have Ch58 := q6; have Ch69 := q7; clear q0 q1 q2 q3 q4 q5 q6 q7; have BKgb72 := Aside0.mk (show w74.heap[gb72]? = some (.cells #[.int .i64 z0, .slice A70 z1.length c70] 27 (0, 0)) by rw [hw]; exact lw_put2 BZ.out (.int .i64 z0) (.slice A70 z1.length c70)); clear hw BZ; have Ch75 := Aside0.mk (Kept.refl w74 (fun k_ => ¬ k_ = gb72)); clear cz0 cz1 cf0 cf1; obtain ⟨ccgb72_0, ccgb72_1⟩ := lw_cells2 (blk_kept BKgb72.out Ch75.out (fun h_ => h_ rfl)); obtain ⟨ccgb21_0, ccgb21_1⟩ := lw_cells2 (blk_kept BKgb21.out Ch24.out (fun h_ => h_ rfl))) | ((with_reducible refine gate_callee (f := 23) rfl ?_); refine goesL_ (some 59) rfl rfl Try.func23 (by kernel_rfl) rfl #[.agg #[.int .i64 z0, .slice A70 z1.length c70], .agg #[.int .i64 y0, .slice A19 y1.length c19]] rfl (by (try simp only [List.map_toArray, List.map_cons, List.map_nil]); first | done | rfl) ?_; refine (laws_eqIntsResult.calls k z0 A70 c70 z1 y0 A19 c19 y1 true _ (Kd.R_reads' (lw_Rheld RX70.out Ch69.out)).2.2 (lw_Rlen (lw_Rheld RX70.out Ch69.out)) (Kd.R_reads' (lw_Rheld RX19.out Ch18.out)).2.2 (lw_Rlen (lw_Rheld RX19.out Ch18.out)) Er.out).mono ?_; rintro e w77 ⟨rfl, hb⟩; refine ⟨_, rfl, ?_⟩; have q0 := Aside0.mk (below_step HB.out hb); have q1 := Aside0.mk (Kept.below Ch8.out hb); have q2 := Aside0.mk (Kept.below Ch18.out hb); have q3 := Aside0.mk (Kept.below Ch24.out hb); have q4 := Aside0.mk (Kept.below Ch35.out hb); have q5 := Aside0.mk (Kept.below Ch44.out hb); have q6 := Aside0.mk (Kept.below Ch58.out hb); have q7 := Aside0.mk (Kept.below Ch69.out hb); have q8 := Aside0.mk (Kept.below Ch75.out hb); clear HB Ch8 Ch18 Ch24 Ch35 Ch44 Ch58 Ch69 Ch75; have HB := q0; have Ch8 := q1; have Ch18 := q2; have Ch24 := q3; have Ch35 := q4; have Ch44 := q5; have Ch58 := q6; have Ch69 := q7; have Ch75 := q8; clear q0 q1 q2 q3 q4 q5 q6 q7 q8; clear hb; clear ccgb72_0 ccgb72_1 ccgb21_0 ccgb21_1; obtain ⟨ccgb41_0, ccgb41_1⟩ := lw_cells2 (blk_kept BKgb41.out Ch44.out (fun h_ => h_ rfl))) | ((with_reducible refine gate_callee (f := 27) rfl ?_); refine goesL_ (some 63) rfl rfl Try.func27 (by kernel_rfl) rfl #[.agg #[.int .i64 z0, .slice A39 zm1.length c39], .int .i64 1] rfl (by (try simp only [List.map_toArray, List.map_cons, List.map_nil]); first | done | rfl) ?_; refine (laws_heldIntsResult.calls k z0 A39 c39 zm1 1 q _ (Kd.R_reads' (lw_Rheld RX59.out Ch58.out)).2.2 (lw_Rlen (lw_Rheld RX59.out Ch58.out)) Eh.out).mono ?_; rintro e w78 ⟨rfl, hb⟩; refine ⟨_, rfl, ?_⟩; have q0 := Aside0.mk (below_step HB.out hb); have q1 := Aside0.mk (Kept.below Ch8.out hb); have q2 := Aside0.mk (Kept.below Ch18.out hb); have q3 := Aside0.mk (Kept.below Ch24.out hb); have q4 := Aside0.mk (Kept.below Ch35.out hb); have q5 := Aside0.mk (Kept.below Ch44.out hb); have q6 := Aside0.mk (Kept.below Ch58.out hb); have q7 := Aside0.mk (Kept.below Ch69.out hb); have q8 := Aside0.mk (Kept.below Ch75.out hb); clear HB Ch8 Ch18 Ch24 Ch35 Ch44 Ch58 Ch69 Ch75; have HB := q0; have Ch8 := q1; have Ch18 := q2; have Ch24 := q3; have Ch35 := q4; have Ch44 := q5; have Ch58 := q6; have Ch69 := q7; have Ch75 := q8; clear q0 q1 q2 q3 q4 q5 q6 q7 q8; clear hb; clear ccgb41_0 ccgb41_1))
  go_ret
  exact ⟨by first | rfl | (simp; done) | (simp [*]; done), HB.out⟩

/-- THE ONE PURE STATEMENT of laws_FnExactPartCoefs. -/
def laws_FnExactPartCoefs.Pure : Prop := ∀ (a0_0 : Int) (a0_1 : Int) (a0_2 : Int) (a0_3 : Int) (a0_4 : Int) (a0_5 : Int) (l0_6 : List Int) (l0_7 : List Int) (l0_8 : List (List Int)), (Lit.int .i64 a0_0).wf = true → (Lit.int .i64 a0_1).wf = true → (Lit.int .i64 a0_2).wf = true → (Lit.int .i64 a0_3).wf = true → (Lit.int .i64 a0_4).wf = true → (Lit.int .i64 a0_5).wf = true → l0_6.length ≤ maxLen → (∀ x ∈ l0_6, (Lit.int .i64 x).wf = true) → l0_7.length ≤ maxLen → (∀ x ∈ l0_7, (Lit.int .i64 x).wf = true) → l0_8.length ≤ maxLen → (∀ l ∈ l0_8, l.length ≤ maxLen ∧ ∀ x ∈ l, (Lit.int .i64 x).wf = true) → ∃ k, laws_FnExactPartCoefs.f k a0_0 a0_1 a0_2 a0_3 a0_4 a0_5 l0_6 l0_7 l0_8 = some true
theorem laws_FnExactPartCoefs.walk (P : laws_FnExactPartCoefs.Pure) (a0_0 : Int) (a0_1 : Int) (a0_2 : Int) (a0_3 : Int) (a0_4 : Int) (a0_5 : Int) (A0_6 : Option Addr) (c0_6 : Nat) (l0_6 : List Int) (A0_7 : Option Addr) (c0_7 : Nat) (l0_7 : List Int) (A0_8 : Option Addr) (c0_8 : Nat) (l0_8 : List (List Int)) (w : World) (w0_0_0 : (Lit.int .i64 a0_0).wf = true) (w0_1_0 : (Lit.int .i64 a0_1).wf = true) (w0_2_0 : (Lit.int .i64 a0_2).wf = true) (w0_3_0 : (Lit.int .i64 a0_3).wf = true) (w0_4_0 : (Lit.int .i64 a0_4).wf = true) (w0_5_0 : (Lit.int .i64 a0_5).wf = true) (w0_6_0 : l0_6.length ≤ maxLen) (w0_6_1 : (∀ x ∈ l0_6, (Lit.int .i64 x).wf = true)) (w0_7_0 : l0_7.length ≤ maxLen) (w0_7_1 : (∀ x ∈ l0_7, (Lit.int .i64 x).wf = true)) (w0_8_0 : l0_8.length ≤ maxLen) (w0_8_1 : (∀ l ∈ l0_8, l.length ≤ maxLen ∧ ∀ x ∈ l, (Lit.int .i64 x).wf = true)) (hr0_6 : Kd.C (Kd.int .i64) w A0_6 l0_6.length l0_6) (hc0_6 : l0_6.length ≤ c0_6) (hr0_7 : Kd.C (Kd.int .i64) w A0_7 l0_7.length l0_7) (hc0_7 : l0_7.length ≤ c0_7) (hr0_8 : Kd.C (Kd.slice 2 (Kd.int .i64)) w A0_8 l0_8.length l0_8) (hc0_8 : l0_8.length ≤ c0_8) :
    Calls Try.prog 5 #[.agg #[.int .i64 a0_0, .int .i64 a0_1, .int .i64 a0_2, .int .i64 a0_3, .int .i64 a0_4, .int .i64 a0_5, .slice A0_6 l0_6.length c0_6, .slice A0_7 l0_7.length c0_7, .slice A0_8 l0_8.length c0_8]] w fun e w' => e = .returned (.bool true) ∧ Below w.heap.size w w' := by
  obtain ⟨k, h⟩ := P a0_0 a0_1 a0_2 a0_3 a0_4 a0_5 l0_6 l0_7 l0_8 w0_0_0 w0_1_0 w0_2_0 w0_3_0 w0_4_0 w0_5_0 w0_6_0 w0_6_1 w0_7_0 w0_7_1 w0_8_0 w0_8_1
  refine (laws_FnExactPartCoefs.calls k a0_0 a0_1 a0_2 a0_3 a0_4 a0_5 A0_6 c0_6 l0_6 A0_7 c0_7 l0_7 A0_8 c0_8 l0_8 true w hr0_6 hc0_6 hr0_7 hc0_7 hr0_8 hc0_8 h).mono ?_
  rintro e w' ⟨rfl, hd⟩
  exact ⟨rfl, hd⟩

end Go.Proofs.Ythehhncokikgcaa.PFnExactPartCoefs
