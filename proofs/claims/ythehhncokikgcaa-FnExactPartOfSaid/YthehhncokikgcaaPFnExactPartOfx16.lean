-- Contracts of the functions that the law reaches, written by wip/xprint.py of this repo.
import Derived.Test.YthehhncokikgcaaPFnExactPartOfx0
import Derived.Test.YthehhncokikgcaaPFnExactPartOfx1
import Derived.Test.YthehhncokikgcaaPFnExactPartOfx2
import Derived.Test.YthehhncokikgcaaPFnExactPartOfx9
import Derived.Test.YthehhncokikgcaaPFnExactPartOfx15
namespace Go.Proofs.Ythehhncokikgcaa.PFnExactPartOf
open Go.RowKit Go.Proofs.YthehhncokikgcaaW.PrintWords Go.Proofs.YthehhncokikgcaaW.PrintLast Go.Proofs.YthehhncokikgcaaW.PrintMore
attribute [local go_sem] max2_int min2_int max_two min_two max_three min_three max_four min_four   -- for this text's walks alone
set_option linter.unusedVariables false
set_option linter.unusedSimpArgs false

/-! ### laws_eqPart: function 32 -/
def laws_eqPart.f (k : Nat) (a0_0 : Int) (a0_1 : Int) (a0_2 : Int) (a0_3 : Int) (a0_4 : Int) (a0_5 : Int) (l0_6 : List Int) (l0_7 : List Int) (l0_8 : List (List Int)) (a1_0 : Int) (a1_1 : Int) (a1_2 : Int) (a1_3 : Int) (a1_4 : Int) (a1_5 : Int) (l1_6 : List Int) (l1_7 : List Int) (l1_8 : List (List Int)) : Option (Bool) := if a0_0 = a1_0 then (if a0_1 = a1_1 then (if a0_2 = a1_2 then (if a0_3 = a1_3 then (if a0_4 = a1_4 then (if a0_5 = a1_5 then ((laws_eqInt64S.f k l0_6 l1_6).bind fun t436 => (if t436 = true then ((laws_eqInt64S.f k l0_7 l1_7).bind fun t437 => (if t437 = true then ((laws_eqInt64SS.f k l0_8 l1_8).bind fun t438 => (if t438 = true then (some true) else (none))) else (none))) else (none))) else (none)) else (none)) else (none)) else (none)) else (none)) else (none)
theorem laws_eqPart.mono : ∀ a0 a1 a2 a3 a4 a5 a6 a7 a8 a9 a10 a11 a12 a13 a14 a15 a16 a17 k, LeO (laws_eqPart.f k a0 a1 a2 a3 a4 a5 a6 a7 a8 a9 a10 a11 a12 a13 a14 a15 a16 a17) (laws_eqPart.f (k + 1) a0 a1 a2 a3 a4 a5 a6 a7 a8 a9 a10 a11 a12 a13 a14 a15 a16 a17) := by
 intro a0 a1 a2 a3 a4 a5 a6 a7 a8 a9 a10 a11 a12 a13 a14 a15 a16 a17 k
 unfold laws_eqPart.f
 repeat' first
   | (with_reducible exact laws_eqInt64S.mono _ _ _)
   | (with_reducible exact laws_eqInt64SS.mono _ _ _)
   | (with_reducible exact LeO.refl _)
   | (with_reducible exact LeO.none _)
   | (with_reducible refine LeO.ite ?_ ?_)
   | (with_reducible refine LeO.bind ?_ (fun _ => ?_))
   | exact laws_eqInt64S.mono _ _ _
   | exact laws_eqInt64SS.mono _ _ _
   | exact LeO.none _
   | refine LeO.ite ?_ ?_
   | refine LeO.bind ?_ (fun _ => ?_)
set_option maxHeartbeats 8000000 in
set_option maxRecDepth 100000 in
theorem laws_eqPart.calls (k : Nat) (a0_0 : Int) (a0_1 : Int) (a0_2 : Int) (a0_3 : Int) (a0_4 : Int) (a0_5 : Int) (A0_6 : Option Addr) (c0_6 : Nat) (l0_6 : List Int) (A0_7 : Option Addr) (c0_7 : Nat) (l0_7 : List Int) (A0_8 : Option Addr) (c0_8 : Nat) (l0_8 : List (List Int)) (a1_0 : Int) (a1_1 : Int) (a1_2 : Int) (a1_3 : Int) (a1_4 : Int) (a1_5 : Int) (A1_6 : Option Addr) (c1_6 : Nat) (l1_6 : List Int) (A1_7 : Option Addr) (c1_7 : Nat) (l1_7 : List Int) (A1_8 : Option Addr) (c1_8 : Nat) (l1_8 : List (List Int)) (r : Bool) (w : World) (hr0_6 : Kd.C (Kd.int .i64) w A0_6 l0_6.length l0_6) (hc0_6 : l0_6.length ≤ c0_6) (hr0_7 : Kd.C (Kd.int .i64) w A0_7 l0_7.length l0_7) (hc0_7 : l0_7.length ≤ c0_7) (hr0_8 : Kd.C (Kd.slice 2 (Kd.int .i64)) w A0_8 l0_8.length l0_8) (hc0_8 : l0_8.length ≤ c0_8) (hr1_6 : Kd.C (Kd.int .i64) w A1_6 l1_6.length l1_6) (hc1_6 : l1_6.length ≤ c1_6) (hr1_7 : Kd.C (Kd.int .i64) w A1_7 l1_7.length l1_7) (hc1_7 : l1_7.length ≤ c1_7) (hr1_8 : Kd.C (Kd.slice 2 (Kd.int .i64)) w A1_8 l1_8.length l1_8) (hc1_8 : l1_8.length ≤ c1_8) (h : laws_eqPart.f k a0_0 a0_1 a0_2 a0_3 a0_4 a0_5 l0_6 l0_7 l0_8 a1_0 a1_1 a1_2 a1_3 a1_4 a1_5 l1_6 l1_7 l1_8 = some r) :
  Calls Try.prog 32 #[.agg #[.int .i64 a0_0, .int .i64 a0_1, .int .i64 a0_2, .int .i64 a0_3, .int .i64 a0_4, .int .i64 a0_5, .slice A0_6 l0_6.length c0_6, .slice A0_7 l0_7.length c0_7, .slice A0_8 l0_8.length c0_8], .agg #[.int .i64 a1_0, .int .i64 a1_1, .int .i64 a1_2, .int .i64 a1_3, .int .i64 a1_4, .int .i64 a1_5, .slice A1_6 l1_6.length c1_6, .slice A1_7 l1_7.length c1_7, .slice A1_8 l1_8.length c1_8]] w fun e w' => e = .returned (.bool r) ∧ Below w.heap.size w w' := by
 have hu47 := Try.underlying47
 have HR0_6 := Aside0.mk hr0_6
 have HC0_6 := Aside0.mk hc0_6
 clear hr0_6 hc0_6
 have HR0_7 := Aside0.mk hr0_7
 have HC0_7 := Aside0.mk hc0_7
 clear hr0_7 hc0_7
 have HR0_8 := Aside0.mk hr0_8
 have HC0_8 := Aside0.mk hc0_8
 clear hr0_8 hc0_8
 have HR1_6 := Aside0.mk hr1_6
 have HC1_6 := Aside0.mk hc1_6
 clear hr1_6 hc1_6
 have HR1_7 := Aside0.mk hr1_7
 have HC1_7 := Aside0.mk hc1_7
 clear hr1_7 hc1_7
 have HR1_8 := Aside0.mk hr1_8
 have HC1_8 := Aside0.mk hc1_8
 clear hr1_8 hc1_8
 have HB := Aside0.mk (Below.refl w.heap.size w)
 have H : (if a0_0 = a1_0 then (if a0_1 = a1_1 then (if a0_2 = a1_2 then (if a0_3 = a1_3 then (if a0_4 = a1_4 then (if a0_5 = a1_5 then ((laws_eqInt64S.f k l0_6 l1_6).bind fun t436 => (if t436 = true then ((laws_eqInt64S.f k l0_7 l1_7).bind fun t437 => (if t437 = true then ((laws_eqInt64SS.f k l0_8 l1_8).bind fun t438 => (if t438 = true then (some true) else (none))) else (none))) else (none))) else (none)) else (none)) else (none)) else (none)) else (none)) else (none)) = some r := h
 clear h
 by_cases c3 : a0_0 = a1_0
 ·rw [if_pos c3] at H
  have c3b0 : (a0_0 == a1_0) = true := beq_iff_eq.mpr c3
  have c3b1 : (a0_0 != a1_0) = false := bne_eq_false_iff_eq.mpr c3
  clear c3
  by_cases c4 : a0_1 = a1_1
  ·rw [if_pos c4] at H
   have c4b0 : (a0_1 == a1_1) = true := beq_iff_eq.mpr c4
   have c4b1 : (a0_1 != a1_1) = false := bne_eq_false_iff_eq.mpr c4
   clear c4
   by_cases c5 : a0_2 = a1_2
   ·rw [if_pos c5] at H
    have c5b0 : (a0_2 == a1_2) = true := beq_iff_eq.mpr c5
    have c5b1 : (a0_2 != a1_2) = false := bne_eq_false_iff_eq.mpr c5
    clear c5
    by_cases c6 : a0_3 = a1_3
    ·rw [if_pos c6] at H
     have c6b0 : (a0_3 == a1_3) = true := beq_iff_eq.mpr c6
     have c6b1 : (a0_3 != a1_3) = false := bne_eq_false_iff_eq.mpr c6
     clear c6
     by_cases c7 : a0_4 = a1_4
     ·rw [if_pos c7] at H
      have c7b0 : (a0_4 == a1_4) = true := beq_iff_eq.mpr c7
      have c7b1 : (a0_4 != a1_4) = false := bne_eq_false_iff_eq.mpr c7
      clear c7
      by_cases c8 : a0_5 = a1_5
      ·rw [if_pos c8] at H
       have c8b0 : (a0_5 == a1_5) = true := beq_iff_eq.mpr c8
       have c8b1 : (a0_5 != a1_5) = false := bne_eq_false_iff_eq.mpr c8
       clear c8
       obtain ⟨t436, A9, H⟩ := bnd H
       by_cases c10 : t436 = true
       ·subst c10
        replace H : ((laws_eqInt64S.f k l0_7 l1_7).bind fun t437 => (if t437 = true then ((laws_eqInt64SS.f k l0_8 l1_8).bind fun t438 => (if t438 = true then (some true) else (none))) else (none))) = some r := by rw [if_pos rfl] at H; exact H
        obtain ⟨t437, A11, H⟩ := bnd H
        by_cases c12 : t437 = true
        ·subst c12
         replace H : ((laws_eqInt64SS.f k l0_8 l1_8).bind fun t438 => (if t438 = true then (some true) else (none))) = some r := by rw [if_pos rfl] at H; exact H
         obtain ⟨t438, A13, H⟩ := bnd H
         by_cases c14 : t438 = true
         ·subst c14
          replace H : (some true) = some r := by rw [if_pos rfl] at H; exact H
          obtain rfl := Option.some.inj H
          go_enter Try.func32, Try.ntmps32
          go_wp2_with (first | ((with_reducible refine gate_dst (N := 2) rfl ?_); refine bev 2 47 #[.int .i64 a0_0, .int .i64 a0_1, .int .i64 a0_2, .int .i64 a0_3, .int .i64 a0_4, .int .i64 a0_5, .slice A0_6 l0_6.length c0_6, .slice A0_7 l0_7.length c0_7, .slice A0_8 l0_8.length c0_8] ?_; intro gb434 hg w15 hbox hb; have BK434 := am hbox; have GW434 := gwe hg; have GE434 := gwe hg; replace HB := hbs hb; clear hb hbox hg) | ((with_reducible refine gate_dst (N := 3) rfl ?_); refine bev 3 47 #[.int .i64 a1_0, .int .i64 a1_1, .int .i64 a1_2, .int .i64 a1_3, .int .i64 a1_4, .int .i64 a1_5, .slice A1_6 l1_6.length c1_6, .slice A1_7 l1_7.length c1_7, .slice A1_8 l1_8.length c1_8] ?_; intro gb435 hg w16 hbox hb; have BK435 := am hbox; have GW435 := gwe hg; have GE435 := gwe hg; replace HB := hbs hb; have NB434_435 := nbl hg BK434; have NB435_434 := nbg hg BK434; replace BK434 := bkb BK434 hb; clear hb hbox hg; have hnb17 := NB434_435.out; have hnc17 := NB435_434.out; obtain ⟨hcz18_0, hcz18_1, hcz18_2, hcz18_3, hcz18_4, hcz18_5, hcz18_6, hcz18_7, hcz18_8, hfz18_0, hfz18_1, hfz18_2, hfz18_3, hfz18_4, hfz18_5, hfz18_6, hfz18_7, hfz18_8⟩ := cf9 (W := w16) BK434.out; obtain ⟨hcz19_0, hcz19_1, hcz19_2, hcz19_3, hcz19_4, hcz19_5, hcz19_6, hcz19_7, hcz19_8, hfz19_0, hfz19_1, hfz19_2, hfz19_3, hfz19_4, hfz19_5, hfz19_6, hfz19_7, hfz19_8⟩ := cf9 (W := w16) BK435.out) | ((with_reducible refine gate_callee (f := 45) rfl ?_); refine gl_ 39 Try.func45 #[.slice A0_6 l0_6.length c0_6, .slice A1_6 l1_6.length c1_6] ?_; (with_reducible refine (laws_eqInt64S.calls k _ _ l0_6 _ _ l1_6 true _ ?_ ?_ ?_ ?_ A9.out).mono ?_); exact cpl HR0_6.out; exact HC0_6.out; exact cpl HR1_6.out; exact HC1_6.out; rintro e w' ⟨rfl, ⟨nd, rfl⟩⟩; refine ⟨_, rfl, ?_⟩) | ((with_reducible refine gate_callee (f := 45) rfl ?_); refine gl_ 45 Try.func45 #[.slice A0_7 l0_7.length c0_7, .slice A1_7 l1_7.length c1_7] ?_; (with_reducible refine (laws_eqInt64S.calls k _ _ l0_7 _ _ l1_7 true _ ?side1 ?side2 ?side3 ?side4 A11.out).mono ?_); (case side1 => repeat (first | exact (Kd.C_below HR0_7.out bnx) | (with_reducible refine Kd.C_alloc ?_ _) | (with_reducible refine Kd.C_drewN ?_ _) | (with_reducible refine Kd.C_drew ?_))); (case side2 => exact HC0_7.out); (case side3 => repeat (first | exact (Kd.C_below HR1_7.out bnx) | (with_reducible refine Kd.C_alloc ?_ _) | (with_reducible refine Kd.C_drewN ?_ _) | (with_reducible refine Kd.C_drew ?_))); (case side4 => exact HC1_7.out); rintro e w' ⟨rfl, ⟨nd, rfl⟩⟩; refine ⟨_, rfl, ?_⟩) | ((with_reducible refine gate_callee (f := 81) rfl ?_); refine gl_ 51 Try.func81 #[.slice A0_8 l0_8.length c0_8, .slice A1_8 l1_8.length c1_8] ?_; (with_reducible refine (laws_eqInt64SS.calls k _ _ l0_8 _ _ l1_8 true _ ?side1 ?side2 ?side3 ?side4 A13.out).mono ?_); (case side1 => repeat (first | exact (Kd.C_below HR0_8.out bnx) | (with_reducible refine Kd.C_alloc ?_ _) | (with_reducible refine Kd.C_drewN ?_ _) | (with_reducible refine Kd.C_drew ?_))); (case side2 => exact HC0_8.out); (case side3 => repeat (first | exact (Kd.C_below HR1_8.out bnx) | (with_reducible refine Kd.C_alloc ?_ _) | (with_reducible refine Kd.C_drewN ?_ _) | (with_reducible refine Kd.C_drew ?_))); (case side4 => exact HC1_8.out); rintro e w' ⟨rfl, ⟨nd, rfl⟩⟩; refine ⟨_, rfl, ?_⟩))
          go_ret
          exact ⟨enq, bnx⟩
         ·replace c14 := Bool.eq_false_iff.mpr c14
          subst c14
          replace H : (none) = some r := by rw [if_neg (show ¬ (false = true) by decide)] at H; exact H
          exact absurd H (by simp)
        ·replace c12 := Bool.eq_false_iff.mpr c12
         subst c12
         replace H : (none) = some r := by rw [if_neg (show ¬ (false = true) by decide)] at H; exact H
         exact absurd H (by simp)
       ·replace c10 := Bool.eq_false_iff.mpr c10
        subst c10
        replace H : (none) = some r := by rw [if_neg (show ¬ (false = true) by decide)] at H; exact H
        exact absurd H (by simp)
      ·rw [if_neg c8] at H
       exact absurd H (by simp)
     ·rw [if_neg c7] at H
      exact absurd H (by simp)
    ·rw [if_neg c6] at H
     exact absurd H (by simp)
   ·rw [if_neg c5] at H
    exact absurd H (by simp)
  ·rw [if_neg c4] at H
   exact absurd H (by simp)
 ·rw [if_neg c3] at H
  exact absurd H (by simp)

/-! ### laws_eqPartResult: function 38 -/
def laws_eqPartResult.f (k : Nat) (a0_0 : Int) (a0_1 : Int) (a0_2 : Int) (a0_3 : Int) (a0_4 : Int) (a0_5 : Int) (a0_6 : Int) (l0_7 : List Int) (l0_8 : List Int) (l0_9 : List (List Int)) (a1_0 : Int) (a1_1 : Int) (a1_2 : Int) (a1_3 : Int) (a1_4 : Int) (a1_5 : Int) (a1_6 : Int) (l1_7 : List Int) (l1_8 : List Int) (l1_9 : List (List Int)) : Option (Bool) := if a0_0 = a1_0 then ((laws_eqPart.f k a0_1 a0_2 a0_3 a0_4 a0_5 a0_6 l0_7 l0_8 l0_9 a1_1 a1_2 a1_3 a1_4 a1_5 a1_6 l1_7 l1_8 l1_9).bind fun t441 => (if t441 = true then (some true) else (none))) else (none)
theorem laws_eqPartResult.mono : ∀ a0 a1 a2 a3 a4 a5 a6 a7 a8 a9 a10 a11 a12 a13 a14 a15 a16 a17 a18 a19 k, LeO (laws_eqPartResult.f k a0 a1 a2 a3 a4 a5 a6 a7 a8 a9 a10 a11 a12 a13 a14 a15 a16 a17 a18 a19) (laws_eqPartResult.f (k + 1) a0 a1 a2 a3 a4 a5 a6 a7 a8 a9 a10 a11 a12 a13 a14 a15 a16 a17 a18 a19) := by
 intro a0 a1 a2 a3 a4 a5 a6 a7 a8 a9 a10 a11 a12 a13 a14 a15 a16 a17 a18 a19 k
 unfold laws_eqPartResult.f
 repeat' first
   | (with_reducible exact laws_eqPart.mono _ _ _ _ _ _ _ _ _ _ _ _ _ _ _ _ _ _ _)
   | (with_reducible exact LeO.refl _)
   | (with_reducible exact LeO.none _)
   | (with_reducible refine LeO.ite ?_ ?_)
   | (with_reducible refine LeO.bind ?_ (fun _ => ?_))
   | exact laws_eqPart.mono _ _ _ _ _ _ _ _ _ _ _ _ _ _ _ _ _ _ _
   | exact LeO.none _
   | refine LeO.ite ?_ ?_
   | refine LeO.bind ?_ (fun _ => ?_)
set_option maxHeartbeats 8000000 in
set_option maxRecDepth 100000 in
theorem laws_eqPartResult.calls (k : Nat) (a0_0 : Int) (a0_1 : Int) (a0_2 : Int) (a0_3 : Int) (a0_4 : Int) (a0_5 : Int) (a0_6 : Int) (A0_7 : Option Addr) (c0_7 : Nat) (l0_7 : List Int) (A0_8 : Option Addr) (c0_8 : Nat) (l0_8 : List Int) (A0_9 : Option Addr) (c0_9 : Nat) (l0_9 : List (List Int)) (a1_0 : Int) (a1_1 : Int) (a1_2 : Int) (a1_3 : Int) (a1_4 : Int) (a1_5 : Int) (a1_6 : Int) (A1_7 : Option Addr) (c1_7 : Nat) (l1_7 : List Int) (A1_8 : Option Addr) (c1_8 : Nat) (l1_8 : List Int) (A1_9 : Option Addr) (c1_9 : Nat) (l1_9 : List (List Int)) (r : Bool) (w : World) (hr0_7 : Kd.C (Kd.int .i64) w A0_7 l0_7.length l0_7) (hc0_7 : l0_7.length ≤ c0_7) (hr0_8 : Kd.C (Kd.int .i64) w A0_8 l0_8.length l0_8) (hc0_8 : l0_8.length ≤ c0_8) (hr0_9 : Kd.C (Kd.slice 2 (Kd.int .i64)) w A0_9 l0_9.length l0_9) (hc0_9 : l0_9.length ≤ c0_9) (hr1_7 : Kd.C (Kd.int .i64) w A1_7 l1_7.length l1_7) (hc1_7 : l1_7.length ≤ c1_7) (hr1_8 : Kd.C (Kd.int .i64) w A1_8 l1_8.length l1_8) (hc1_8 : l1_8.length ≤ c1_8) (hr1_9 : Kd.C (Kd.slice 2 (Kd.int .i64)) w A1_9 l1_9.length l1_9) (hc1_9 : l1_9.length ≤ c1_9) (h : laws_eqPartResult.f k a0_0 a0_1 a0_2 a0_3 a0_4 a0_5 a0_6 l0_7 l0_8 l0_9 a1_0 a1_1 a1_2 a1_3 a1_4 a1_5 a1_6 l1_7 l1_8 l1_9 = some r) :
  Calls Try.prog 38 #[.agg #[.int .i64 a0_0, .int .i64 a0_1, .int .i64 a0_2, .int .i64 a0_3, .int .i64 a0_4, .int .i64 a0_5, .int .i64 a0_6, .slice A0_7 l0_7.length c0_7, .slice A0_8 l0_8.length c0_8, .slice A0_9 l0_9.length c0_9], .agg #[.int .i64 a1_0, .int .i64 a1_1, .int .i64 a1_2, .int .i64 a1_3, .int .i64 a1_4, .int .i64 a1_5, .int .i64 a1_6, .slice A1_7 l1_7.length c1_7, .slice A1_8 l1_8.length c1_8, .slice A1_9 l1_9.length c1_9]] w fun e w' => e = .returned (.bool r) ∧ Below w.heap.size w w' := by
 have hu53 := Try.underlying53
 have hu47 := Try.underlying47
 have HR0_7 := Aside0.mk hr0_7
 have HC0_7 := Aside0.mk hc0_7
 clear hr0_7 hc0_7
 have HR0_8 := Aside0.mk hr0_8
 have HC0_8 := Aside0.mk hc0_8
 clear hr0_8 hc0_8
 have HR0_9 := Aside0.mk hr0_9
 have HC0_9 := Aside0.mk hc0_9
 clear hr0_9 hc0_9
 have HR1_7 := Aside0.mk hr1_7
 have HC1_7 := Aside0.mk hc1_7
 clear hr1_7 hc1_7
 have HR1_8 := Aside0.mk hr1_8
 have HC1_8 := Aside0.mk hc1_8
 clear hr1_8 hc1_8
 have HR1_9 := Aside0.mk hr1_9
 have HC1_9 := Aside0.mk hc1_9
 clear hr1_9 hc1_9
 have HB := Aside0.mk (Below.refl w.heap.size w)
 have H : (if a0_0 = a1_0 then ((laws_eqPart.f k a0_1 a0_2 a0_3 a0_4 a0_5 a0_6 l0_7 l0_8 l0_9 a1_1 a1_2 a1_3 a1_4 a1_5 a1_6 l1_7 l1_8 l1_9).bind fun t441 => (if t441 = true then (some true) else (none))) else (none)) = some r := h
 clear h
 by_cases c3 : a0_0 = a1_0
 ·rw [if_pos c3] at H
  have c3b0 : (a0_0 == a1_0) = true := beq_iff_eq.mpr c3
  have c3b1 : (a0_0 != a1_0) = false := bne_eq_false_iff_eq.mpr c3
  clear c3
  obtain ⟨t441, A4, H⟩ := bnd H
  by_cases c5 : t441 = true
  ·subst c5
   replace H : (some true) = some r := by rw [if_pos rfl] at H; exact H
   obtain rfl := Option.some.inj H
   go_enter Try.func38, Try.ntmps38
   go_wp2_with (first | ((with_reducible refine gate_dst (N := 2) rfl ?_); refine bev 2 53 #[.int .i64 a0_0, .int .i64 a0_1, .int .i64 a0_2, .int .i64 a0_3, .int .i64 a0_4, .int .i64 a0_5, .int .i64 a0_6, .slice A0_7 l0_7.length c0_7, .slice A0_8 l0_8.length c0_8, .slice A0_9 l0_9.length c0_9] ?_; intro gb439 hg w6 hbox hb; have BK439 := am hbox; have GW439 := gwe hg; have GE439 := gwe hg; replace HB := hbs hb; clear hb hbox hg) | ((with_reducible refine gate_dst (N := 3) rfl ?_); refine bev 3 53 #[.int .i64 a1_0, .int .i64 a1_1, .int .i64 a1_2, .int .i64 a1_3, .int .i64 a1_4, .int .i64 a1_5, .int .i64 a1_6, .slice A1_7 l1_7.length c1_7, .slice A1_8 l1_8.length c1_8, .slice A1_9 l1_9.length c1_9] ?_; intro gb440 hg w7 hbox hb; have BK440 := am hbox; have GW440 := gwe hg; have GE440 := gwe hg; replace HB := hbs hb; have NB439_440 := nbl hg BK439; have NB440_439 := nbg hg BK439; replace BK439 := bkb BK439 hb; clear hb hbox hg; have hnb8 := NB439_440.out; have hnc8 := NB440_439.out; obtain ⟨hcz9_0, hcz9_1, hcz9_2, hcz9_3, hcz9_4, hcz9_5, hcz9_6, hcz9_7, hcz9_8, hcz9_9, hfz9_0, hfz9_1, hfz9_2, hfz9_3, hfz9_4, hfz9_5, hfz9_6, hfz9_7, hfz9_8, hfz9_9⟩ := cf10 (W := w7) BK439.out; obtain ⟨hcz10_0, hcz10_1, hcz10_2, hcz10_3, hcz10_4, hcz10_5, hcz10_6, hcz10_7, hcz10_8, hcz10_9, hfz10_0, hfz10_1, hfz10_2, hfz10_3, hfz10_4, hfz10_5, hfz10_6, hfz10_7, hfz10_8, hfz10_9⟩ := cf10 (W := w7) BK440.out) | ((with_reducible refine gate_callee (f := 32) rfl ?_); refine gl_ 14 Try.func32 #[.agg #[.int .i64 a0_1, .int .i64 a0_2, .int .i64 a0_3, .int .i64 a0_4, .int .i64 a0_5, .int .i64 a0_6, .slice A0_7 l0_7.length c0_7, .slice A0_8 l0_8.length c0_8, .slice A0_9 l0_9.length c0_9], .agg #[.int .i64 a1_1, .int .i64 a1_2, .int .i64 a1_3, .int .i64 a1_4, .int .i64 a1_5, .int .i64 a1_6, .slice A1_7 l1_7.length c1_7, .slice A1_8 l1_8.length c1_8, .slice A1_9 l1_9.length c1_9]] ?_; (with_reducible refine (laws_eqPart.calls k a0_1 a0_2 a0_3 a0_4 a0_5 a0_6 _ _ l0_7 _ _ l0_8 _ _ l0_9 a1_1 a1_2 a1_3 a1_4 a1_5 a1_6 _ _ l1_7 _ _ l1_8 _ _ l1_9 true _ ?_ ?_ ?_ ?_ ?_ ?_ ?_ ?_ ?_ ?_0 ?_1 ?_2 A4.out).mono ?_); exact cpl HR0_7.out; exact HC0_7.out; exact cpl HR0_8.out; exact HC0_8.out; exact cpl HR0_9.out; exact HC0_9.out; exact cpl HR1_7.out; exact HC1_7.out; exact cpl HR1_8.out; exact HC1_8.out; exact cpl HR1_9.out; exact HC1_9.out; rintro e w11 ⟨rfl, hb⟩; refine ⟨_, rfl, ?_⟩; replace BK439 := bkb BK439 hb; replace BK440 := bkb BK440 hb; replace HB := hbs hb; (try clear hb)))
   go_ret
   exact ⟨enq, bnx⟩
  ·replace c5 := Bool.eq_false_iff.mpr c5
   subst c5
   replace H : (none) = some r := by rw [if_neg (show ¬ (false = true) by decide)] at H; exact H
   exact absurd H (by simp)
 ·rw [if_neg c3] at H
  exact absurd H (by simp)

/-! ### laws_markPart: function 33 -/
def laws_markPart.f (k : Nat) (a0_0 : Int) (a0_1 : Int) (a0_2 : Int) (a0_3 : Int) (a0_4 : Int) (a0_5 : Int) (l0_6 : List Int) (l0_7 : List Int) (l0_8 : List (List Int)) (a1 : Int) : Option (Int × List Int × List Int × List (List Int)) := (laws_markInt64S.f k l0_6 a1).bind fun t1 => (laws_markInt64S.f k l0_7 t1.1).bind fun t2 => (laws_markInt64SS.f k l0_8 t2.1).bind fun t3 => some (t3.1, t1.2, t2.2, t3.2)
theorem laws_markPart.mono : ∀ a0 a1 a2 a3 a4 a5 a6 a7 a8 a9 k, LeO (laws_markPart.f k a0 a1 a2 a3 a4 a5 a6 a7 a8 a9) (laws_markPart.f (k + 1) a0 a1 a2 a3 a4 a5 a6 a7 a8 a9) := by
  intro a0 a1 a2 a3 a4 a5 a6 a7 a8 a9 k
  unfold laws_markPart.f
  refine LeO.bind (laws_markInt64S.mono _ _ _) (fun _ => ?_)
  refine LeO.bind (laws_markInt64S.mono _ _ _) (fun _ => ?_)
  refine LeO.bind (laws_markInt64SS.mono _ _ _) (fun _ => ?_)
  exact LeO.refl _
set_option maxHeartbeats 8000000 in
set_option maxRecDepth 100000 in
theorem laws_markPart.calls (k : Nat) (P6_ P7_ P8_ : Nat → Prop) (u6_ u7_ u8_ : Value) (a0_0 : Int) (a0_1 : Int) (a0_2 : Int) (a0_3 : Int) (a0_4 : Int) (a0_5 : Int) (l0_6 : List Int) (l0_7 : List Int) (l0_8 : List (List Int)) (a1 : Int) (r1 : Int) (r2 : List Int) (r3 : List Int) (r4 : List (List Int)) (w0 w : World) (hB : Below w0.heap.size w0 w) (ho6 : Kd.R (Kd.int .i64) 2 w w0.heap.size P6_ u6_ l0_6) (ho7 : Kd.R (Kd.int .i64) 2 w w0.heap.size P7_ u7_ l0_7) (ho8 : Kd.S (Kd.slice 2 (Kd.int .i64)) 24 w w0.heap.size P8_ u8_ l0_8) (h6_7 : ∀ k_, P6_ k_ → ¬ P7_ k_) (h6_8 : ∀ k_, P6_ k_ → ¬ P8_ k_) (h7_8 : ∀ k_, P7_ k_ → ¬ P8_ k_) (h : laws_markPart.f k a0_0 a0_1 a0_2 a0_3 a0_4 a0_5 l0_6 l0_7 l0_8 a1 = some (r1, r2, r3, r4)) :
    Calls Try.prog 33 #[.agg #[.int .i64 a0_0, .int .i64 a0_1, .int .i64 a0_2, .int .i64 a0_3, .int .i64 a0_4, .int .i64 a0_5, u6_, u7_, u8_], .int .i64 a1] w fun e w' => e = .returned (.int .i64 r1) ∧ Kd.R (Kd.int .i64) 2 w' w0.heap.size (fun k_ => P6_ k_ ∨ w.heap.size ≤ k_) u6_ r2 ∧ Kd.R (Kd.int .i64) 2 w' w0.heap.size (fun k_ => P7_ k_ ∨ w.heap.size ≤ k_) u7_ r3 ∧ Kd.S (Kd.slice 2 (Kd.int .i64)) 24 w' w0.heap.size (fun k_ => P8_ k_ ∨ w.heap.size ≤ k_) u8_ r4 ∧ Below w0.heap.size w0 w' ∧ Kept w w' (fun k_ => P6_ k_ ∨ P7_ k_ ∨ P8_ k_) := by
  have hu47 := Try.underlying47
  unfold laws_markPart.f at h
  obtain ⟨⟨m1, l1⟩, A1_, h⟩ := Option.bind_eq_some_iff.mp h
  have HA1 := Aside0.mk A1_
  clear A1_
  obtain ⟨⟨m2, l2⟩, A2_, h⟩ := Option.bind_eq_some_iff.mp h
  have HA2 := Aside0.mk A2_
  clear A2_
  obtain ⟨⟨m3, l3⟩, A3_, h⟩ := Option.bind_eq_some_iff.mp h
  have HA3 := Aside0.mk A3_
  clear A3_
  simp only [Option.some.injEq, Prod.mk.injEq] at h
  obtain ⟨rfl, rfl, rfl, rfl⟩ := h
  have b6 := Kd.R_mono (ok' := fun k_ => P6_ k_ ∧ k_ < w.heap.size) (Kd.R_bound ho6) (fun _ hk => ⟨hk.1, hk.2.2.1⟩)
  obtain ⟨A6, c6, rfl⟩ := Kd.R_slice ho6
  have HO6 := Aside0.mk b6
  clear b6 ho6
  have b7 := Kd.R_mono (ok' := fun k_ => P7_ k_ ∧ k_ < w.heap.size) (Kd.R_bound ho7) (fun _ hk => ⟨hk.1, hk.2.2.1⟩)
  obtain ⟨A7, c7, rfl⟩ := Kd.R_slice ho7
  have HO7 := Aside0.mk b7
  clear b7 ho7
  have b8 := Kd.S_mono (ok' := fun k_ => P8_ k_ ∧ k_ < w.heap.size) (Kd.S_bound ho8) (fun _ hk => ⟨hk.1, hk.2.2.1⟩)
  obtain ⟨A8, c8, rfl⟩ := Kd.S_slice ho8
  have HO8 := Aside0.mk b8
  clear b8 ho8
  have HP6_7 := Aside0.mk h6_7
  clear h6_7
  have HP6_8 := Aside0.mk h6_8
  clear h6_8
  have HP7_8 := Aside0.mk h7_8
  clear h7_8
  have HB := Aside0.mk hB
  clear hB
  go_enter Try.func33, Try.ntmps33
  go_wp2_with (first | ((with_reducible refine gate_dst (N := 2) rfl ?_); refine bev 2 47 #[.int .i64 a0_0, .int .i64 a0_1, .int .i64 a0_2, .int .i64 a0_3, .int .i64 a0_4, .int .i64 a0_5, .slice A6 l0_6.length c6, .slice A7 l0_7.length c7, .slice A8 l0_8.length c8] ?_; intro gb hg w5 hbox hb; have n6 := Aside0.mk (Kd.R_below HO6.out hb); have n7 := Aside0.mk (Kd.R_below HO7.out hb); have n8 := Aside0.mk (Kd.S_below HO8.out hb); have n_b := Aside0.mk (below_step HB.out hb); have HK := Aside0.mk (Kept.below (S := (fun k_ => P6_ k_ ∨ P7_ k_ ∨ P8_ k_)) (Kept.refl w _) hb); have BK := Aside0.mk hbox; have HG := Aside0.mk hg; clear HO6 HO7 HO8 HB hb hbox hg; have HO6 := n6; have HO7 := n7; have HO8 := n8; have HB := n_b; clear n6 n7 n8 n_b; have hc0 : w5.cell? ⟨gb, 0, none⟩ = some (.int .i64 a0_0) := (blk_cell BK.out 0).trans rfl; have hc1 : w5.cell? ⟨gb, 1, none⟩ = some (.int .i64 a0_1) := (blk_cell BK.out 1).trans rfl; have hc2 : w5.cell? ⟨gb, 2, none⟩ = some (.int .i64 a0_2) := (blk_cell BK.out 2).trans rfl; have hc3 : w5.cell? ⟨gb, 3, none⟩ = some (.int .i64 a0_3) := (blk_cell BK.out 3).trans rfl; have hc4 : w5.cell? ⟨gb, 4, none⟩ = some (.int .i64 a0_4) := (blk_cell BK.out 4).trans rfl; have hc5 : w5.cell? ⟨gb, 5, none⟩ = some (.int .i64 a0_5) := (blk_cell BK.out 5).trans rfl; have hc6 : w5.cell? ⟨gb, 6, none⟩ = some (.slice A6 l0_6.length c6) := (blk_cell BK.out 6).trans rfl; have hc7 : w5.cell? ⟨gb, 7, none⟩ = some (.slice A7 l0_7.length c7) := (blk_cell BK.out 7).trans rfl; have hc8 : w5.cell? ⟨gb, 8, none⟩ = some (.slice A8 l0_8.length c8) := (blk_cell BK.out 8).trans rfl; have hf0 := blk_frozen BK.out 0; have hf1 := blk_frozen BK.out 1; have hf2 := blk_frozen BK.out 2; have hf3 := blk_frozen BK.out 3; have hf4 := blk_frozen BK.out 4; have hf5 := blk_frozen BK.out 5; have hf6 := blk_frozen BK.out 6; have hf7 := blk_frozen BK.out 7; have hf8 := blk_frozen BK.out 8) | ((with_reducible refine gate_callee (f := 46) rfl ?_); refine goesL_ (some 8) rfl rfl Try.func46 (by kernel_rfl) rfl #[.slice A6 l0_6.length c6, .int .i64 a1] rfl (by (try simp only [List.map_toArray, List.map_cons, List.map_nil]); first | done | rfl) ?_; refine (laws_markInt64S.calls k (fun k_ => P6_ k_ ∧ k_ < w.heap.size) _ l0_6 a1 m1 l1 w0 _ HB.out HO6.out HA1.out).mono ?_; rintro e w7 ⟨rfl, hy, hb, hkp⟩; refine ⟨_, rfl, ?_⟩; have hg := HG.out; have n6 := Aside0.mk (Kd.R_reok rfl hy (fun k_ e_ => HO6.out.1 k_ e_)); have n7 := Aside0.mk (Kd.R_kept HO7.out hkp (fun k_ hk hs => HP6_7.out k_ hs.1 hk.1)); have n8 := Aside0.mk (Kd.S_kept HO8.out hkp (fun k_ hk hs => HP6_8.out k_ hs.1 hk.1)); have n_g := Aside0.mk (blk_kept BK.out hkp (fun hs => by have := hs.2; omega)); have n_k := Aside0.mk (Kept.then_ HK.out hkp (fun k_ hs => .inl (by simp [hs.1]))); have n_b := Aside0.mk hb; clear HO6 HO7 HO8 HB HK BK hb hkp hy hg hc0 hf0 hc1 hf1 hc2 hf2 hc3 hf3 hc4 hf4 hc5 hf5 hc6 hf6 hc7 hf7 hc8 hf8; have HO6 := n6; have HO7 := n7; have HO8 := n8; have HB := n_b; have HK := n_k; have BK := n_g; clear n6 n7 n8 n_b n_k n_g; have hc0 : w7.cell? ⟨gb, 0, none⟩ = some (.int .i64 a0_0) := (blk_cell BK.out 0).trans rfl; have hc1 : w7.cell? ⟨gb, 1, none⟩ = some (.int .i64 a0_1) := (blk_cell BK.out 1).trans rfl; have hc2 : w7.cell? ⟨gb, 2, none⟩ = some (.int .i64 a0_2) := (blk_cell BK.out 2).trans rfl; have hc3 : w7.cell? ⟨gb, 3, none⟩ = some (.int .i64 a0_3) := (blk_cell BK.out 3).trans rfl; have hc4 : w7.cell? ⟨gb, 4, none⟩ = some (.int .i64 a0_4) := (blk_cell BK.out 4).trans rfl; have hc5 : w7.cell? ⟨gb, 5, none⟩ = some (.int .i64 a0_5) := (blk_cell BK.out 5).trans rfl; have hc6 : w7.cell? ⟨gb, 6, none⟩ = some (.slice A6 l0_6.length c6) := (blk_cell BK.out 6).trans rfl; have hc7 : w7.cell? ⟨gb, 7, none⟩ = some (.slice A7 l0_7.length c7) := (blk_cell BK.out 7).trans rfl; have hc8 : w7.cell? ⟨gb, 8, none⟩ = some (.slice A8 l0_8.length c8) := (blk_cell BK.out 8).trans rfl; have hf0 := blk_frozen BK.out 0; have hf1 := blk_frozen BK.out 1; have hf2 := blk_frozen BK.out 2; have hf3 := blk_frozen BK.out 3; have hf4 := blk_frozen BK.out 4; have hf5 := blk_frozen BK.out 5; have hf6 := blk_frozen BK.out 6; have hf7 := blk_frozen BK.out 7; have hf8 := blk_frozen BK.out 8) | ((with_reducible refine gate_callee (f := 46) rfl ?_); refine goesL_ (some 12) rfl rfl Try.func46 (by kernel_rfl) rfl #[.slice A7 l0_7.length c7, .int .i64 m1] rfl (by (try simp only [List.map_toArray, List.map_cons, List.map_nil]); first | done | rfl) ?_; refine (laws_markInt64S.calls k (fun k_ => P7_ k_ ∧ k_ < w.heap.size) _ l0_7 m1 m2 l2 w0 _ HB.out HO7.out HA2.out).mono ?_; rintro e w8 ⟨rfl, hy, hb, hkp⟩; refine ⟨_, rfl, ?_⟩; have hg := HG.out; have n6 := Aside0.mk (Kd.R_kept HO6.out hkp (fun k_ hk hs => HP6_7.out k_ hk.1 hs.1)); have n7 := Aside0.mk (Kd.R_reok rfl hy (fun k_ e_ => HO7.out.1 k_ e_)); have n8 := Aside0.mk (Kd.S_kept HO8.out hkp (fun k_ hk hs => HP7_8.out k_ hs.1 hk.1)); have n_g := Aside0.mk (blk_kept BK.out hkp (fun hs => by have := hs.2; omega)); have n_k := Aside0.mk (Kept.then_ HK.out hkp (fun k_ hs => .inl (by simp [hs.1]))); have n_b := Aside0.mk hb; clear HO6 HO7 HO8 HB HK BK hb hkp hy hg hc0 hf0 hc1 hf1 hc2 hf2 hc3 hf3 hc4 hf4 hc5 hf5 hc6 hf6 hc7 hf7 hc8 hf8; have HO6 := n6; have HO7 := n7; have HO8 := n8; have HB := n_b; have HK := n_k; have BK := n_g; clear n6 n7 n8 n_b n_k n_g; have hc0 : w8.cell? ⟨gb, 0, none⟩ = some (.int .i64 a0_0) := (blk_cell BK.out 0).trans rfl; have hc1 : w8.cell? ⟨gb, 1, none⟩ = some (.int .i64 a0_1) := (blk_cell BK.out 1).trans rfl; have hc2 : w8.cell? ⟨gb, 2, none⟩ = some (.int .i64 a0_2) := (blk_cell BK.out 2).trans rfl; have hc3 : w8.cell? ⟨gb, 3, none⟩ = some (.int .i64 a0_3) := (blk_cell BK.out 3).trans rfl; have hc4 : w8.cell? ⟨gb, 4, none⟩ = some (.int .i64 a0_4) := (blk_cell BK.out 4).trans rfl; have hc5 : w8.cell? ⟨gb, 5, none⟩ = some (.int .i64 a0_5) := (blk_cell BK.out 5).trans rfl; have hc6 : w8.cell? ⟨gb, 6, none⟩ = some (.slice A6 l0_6.length c6) := (blk_cell BK.out 6).trans rfl; have hc7 : w8.cell? ⟨gb, 7, none⟩ = some (.slice A7 l0_7.length c7) := (blk_cell BK.out 7).trans rfl; have hc8 : w8.cell? ⟨gb, 8, none⟩ = some (.slice A8 l0_8.length c8) := (blk_cell BK.out 8).trans rfl; have hf0 := blk_frozen BK.out 0; have hf1 := blk_frozen BK.out 1; have hf2 := blk_frozen BK.out 2; have hf3 := blk_frozen BK.out 3; have hf4 := blk_frozen BK.out 4; have hf5 := blk_frozen BK.out 5; have hf6 := blk_frozen BK.out 6; have hf7 := blk_frozen BK.out 7; have hf8 := blk_frozen BK.out 8) | ((with_reducible refine gate_callee (f := 82) rfl ?_); refine goesL_ (some 16) rfl rfl Try.func82 (by kernel_rfl) rfl #[.slice A8 l0_8.length c8, .int .i64 m2] rfl (by (try simp only [List.map_toArray, List.map_cons, List.map_nil]); first | done | rfl) ?_; refine (laws_markInt64SS.calls k (fun k_ => P8_ k_ ∧ k_ < w.heap.size) _ l0_8 m2 m3 l3 w0 _ HB.out HO8.out HA3.out).mono ?_; rintro e w9 ⟨rfl, hy, hb, hkp⟩; refine ⟨_, rfl, ?_⟩; have hg := HG.out; have HZ := Aside0.mk HK.out.1; have n6 := Aside0.mk (Kd.R_kept HO6.out hkp (fun k_ hk hs => HP6_8.out k_ hk.1 hs.1)); have n7 := Aside0.mk (Kd.R_kept HO7.out hkp (fun k_ hk hs => HP7_8.out k_ hk.1 hs.1)); have n8 := Aside0.mk hy; have n_g := Aside0.mk (blk_kept BK.out hkp (fun hs => by have := hs.2; omega)); have n_k := Aside0.mk (Kept.then_ HK.out hkp (fun k_ hs => .inl (by simp [hs.1]))); have n_b := Aside0.mk hb; clear HO6 HO7 HO8 HB HK BK hb hkp hy hg hc0 hf0 hc1 hf1 hc2 hf2 hc3 hf3 hc4 hf4 hc5 hf5 hc6 hf6 hc7 hf7 hc8 hf8; have HO6 := n6; have HO7 := n7; have HO8 := n8; have HB := n_b; have HK := n_k; have BK := n_g; clear n6 n7 n8 n_b n_k n_g; have hc0 : w9.cell? ⟨gb, 0, none⟩ = some (.int .i64 a0_0) := (blk_cell BK.out 0).trans rfl; have hc1 : w9.cell? ⟨gb, 1, none⟩ = some (.int .i64 a0_1) := (blk_cell BK.out 1).trans rfl; have hc2 : w9.cell? ⟨gb, 2, none⟩ = some (.int .i64 a0_2) := (blk_cell BK.out 2).trans rfl; have hc3 : w9.cell? ⟨gb, 3, none⟩ = some (.int .i64 a0_3) := (blk_cell BK.out 3).trans rfl; have hc4 : w9.cell? ⟨gb, 4, none⟩ = some (.int .i64 a0_4) := (blk_cell BK.out 4).trans rfl; have hc5 : w9.cell? ⟨gb, 5, none⟩ = some (.int .i64 a0_5) := (blk_cell BK.out 5).trans rfl; have hc6 : w9.cell? ⟨gb, 6, none⟩ = some (.slice A6 l0_6.length c6) := (blk_cell BK.out 6).trans rfl; have hc7 : w9.cell? ⟨gb, 7, none⟩ = some (.slice A7 l0_7.length c7) := (blk_cell BK.out 7).trans rfl; have hc8 : w9.cell? ⟨gb, 8, none⟩ = some (.slice A8 l0_8.length c8) := (blk_cell BK.out 8).trans rfl; have hf0 := blk_frozen BK.out 0; have hf1 := blk_frozen BK.out 1; have hf2 := blk_frozen BK.out 2; have hf3 := blk_frozen BK.out 3; have hf4 := blk_frozen BK.out 4; have hf5 := blk_frozen BK.out 5; have hf6 := blk_frozen BK.out 6; have hf7 := blk_frozen BK.out 7; have hf8 := blk_frozen BK.out 8))
  go_ret
  exact ⟨by first | rfl | (simp; done) | simp_all, Kd.R_mono HO6.out (fun k_ hk => .inl hk.1), Kd.R_mono HO7.out (fun k_ hk => .inl hk.1), Kd.S_mono HO8.out (fun k_ hk => hk.elim (fun h_ => .inl h_.1) (fun h_ => .inr (Nat.le_trans HZ.out h_))), HB.out, HK.out⟩

/-! ### laws_markPartResult: function 39 -/
def laws_markPartResult.f (k : Nat) (a0_0 : Int) (a0_1 : Int) (a0_2 : Int) (a0_3 : Int) (a0_4 : Int) (a0_5 : Int) (a0_6 : Int) (l0_7 : List Int) (l0_8 : List Int) (l0_9 : List (List Int)) (a1 : Int) : Option (Int × List Int × List Int × List (List Int)) := laws_markPart.f k a0_1 a0_2 a0_3 a0_4 a0_5 a0_6 l0_7 l0_8 l0_9 a1
theorem laws_markPartResult.mono : ∀ a0 a1 a2 a3 a4 a5 a6 a7 a8 a9 a10 k, LeO (laws_markPartResult.f k a0 a1 a2 a3 a4 a5 a6 a7 a8 a9 a10) (laws_markPartResult.f (k + 1) a0 a1 a2 a3 a4 a5 a6 a7 a8 a9 a10) := fun a0 a1 a2 a3 a4 a5 a6 a7 a8 a9 a10 k => laws_markPart.mono a1 a2 a3 a4 a5 a6 a7 a8 a9 a10 k
set_option maxHeartbeats 8000000 in
set_option maxRecDepth 100000 in
theorem laws_markPartResult.calls (k : Nat) (P7_ P8_ P9_ : Nat → Prop) (u7_ u8_ u9_ : Value) (a0_0 : Int) (a0_1 : Int) (a0_2 : Int) (a0_3 : Int) (a0_4 : Int) (a0_5 : Int) (a0_6 : Int) (l0_7 : List Int) (l0_8 : List Int) (l0_9 : List (List Int)) (a1 : Int) (r1 : Int) (r2 : List Int) (r3 : List Int) (r4 : List (List Int)) (w0 w : World) (hB : Below w0.heap.size w0 w) (ho7 : Kd.R (Kd.int .i64) 2 w w0.heap.size P7_ u7_ l0_7) (ho8 : Kd.R (Kd.int .i64) 2 w w0.heap.size P8_ u8_ l0_8) (ho9 : Kd.S (Kd.slice 2 (Kd.int .i64)) 24 w w0.heap.size P9_ u9_ l0_9) (h7_8 : ∀ k_, P7_ k_ → ¬ P8_ k_) (h7_9 : ∀ k_, P7_ k_ → ¬ P9_ k_) (h8_9 : ∀ k_, P8_ k_ → ¬ P9_ k_) (h : laws_markPartResult.f k a0_0 a0_1 a0_2 a0_3 a0_4 a0_5 a0_6 l0_7 l0_8 l0_9 a1 = some (r1, r2, r3, r4)) :
    Calls Try.prog 39 #[.agg #[.int .i64 a0_0, .int .i64 a0_1, .int .i64 a0_2, .int .i64 a0_3, .int .i64 a0_4, .int .i64 a0_5, .int .i64 a0_6, u7_, u8_, u9_], .int .i64 a1] w fun e w' => e = .returned (.int .i64 r1) ∧ Kd.R (Kd.int .i64) 2 w' w0.heap.size (fun k_ => P7_ k_ ∨ w.heap.size ≤ k_) u7_ r2 ∧ Kd.R (Kd.int .i64) 2 w' w0.heap.size (fun k_ => P8_ k_ ∨ w.heap.size ≤ k_) u8_ r3 ∧ Kd.S (Kd.slice 2 (Kd.int .i64)) 24 w' w0.heap.size (fun k_ => P9_ k_ ∨ w.heap.size ≤ k_) u9_ r4 ∧ Below w0.heap.size w0 w' ∧ Kept w w' (fun k_ => P7_ k_ ∨ P8_ k_ ∨ P9_ k_) := by
  have hu53 := Try.underlying53
  have hu47 := Try.underlying47
  have HA := Aside0.mk (show laws_markPart.f k a0_1 a0_2 a0_3 a0_4 a0_5 a0_6 l0_7 l0_8 l0_9 a1 = some (r1, r2, r3, r4) from h)
  clear h
  have b7 := Kd.R_mono (ok' := fun k_ => P7_ k_ ∧ k_ < w.heap.size) (Kd.R_bound ho7) (fun _ hk => ⟨hk.1, hk.2.2.1⟩)
  obtain ⟨A7, c7, rfl⟩ := Kd.R_slice ho7
  have HO7 := Aside0.mk b7
  clear b7 ho7
  have b8 := Kd.R_mono (ok' := fun k_ => P8_ k_ ∧ k_ < w.heap.size) (Kd.R_bound ho8) (fun _ hk => ⟨hk.1, hk.2.2.1⟩)
  obtain ⟨A8, c8, rfl⟩ := Kd.R_slice ho8
  have HO8 := Aside0.mk b8
  clear b8 ho8
  have b9 := Kd.S_mono (ok' := fun k_ => P9_ k_ ∧ k_ < w.heap.size) (Kd.S_bound ho9) (fun _ hk => ⟨hk.1, hk.2.2.1⟩)
  obtain ⟨A9, c9, rfl⟩ := Kd.S_slice ho9
  have HO9 := Aside0.mk b9
  clear b9 ho9
  have HP7_8 := Aside0.mk h7_8
  clear h7_8
  have HP7_9 := Aside0.mk h7_9
  clear h7_9
  have HP8_9 := Aside0.mk h8_9
  clear h8_9
  have HB := Aside0.mk hB
  clear hB
  go_enter Try.func39, Try.ntmps39
  go_wp2_with (first | ((with_reducible refine gate_dst (N := 2) rfl ?_); refine bev 2 53 #[.int .i64 a0_0, .int .i64 a0_1, .int .i64 a0_2, .int .i64 a0_3, .int .i64 a0_4, .int .i64 a0_5, .int .i64 a0_6, .slice A7 l0_7.length c7, .slice A8 l0_8.length c8, .slice A9 l0_9.length c9] ?_; intro gb hg w5 hbox hb; have n7 := Aside0.mk (Kd.R_below HO7.out hb); have n8 := Aside0.mk (Kd.R_below HO8.out hb); have n9 := Aside0.mk (Kd.S_below HO9.out hb); have n_b := Aside0.mk (below_step HB.out hb); have HK := Aside0.mk (Kept.below (S := (fun k_ => P7_ k_ ∨ P8_ k_ ∨ P9_ k_)) (Kept.refl w _) hb); have BK := Aside0.mk hbox; have HG := Aside0.mk hg; clear HO7 HO8 HO9 HB hb hbox hg; have HO7 := n7; have HO8 := n8; have HO9 := n9; have HB := n_b; clear n7 n8 n9 n_b; have hc0 : w5.cell? ⟨gb, 0, none⟩ = some (.int .i64 a0_0) := (blk_cell BK.out 0).trans rfl; have hc1 : w5.cell? ⟨gb, 1, none⟩ = some (.int .i64 a0_1) := (blk_cell BK.out 1).trans rfl; have hc2 : w5.cell? ⟨gb, 2, none⟩ = some (.int .i64 a0_2) := (blk_cell BK.out 2).trans rfl; have hc3 : w5.cell? ⟨gb, 3, none⟩ = some (.int .i64 a0_3) := (blk_cell BK.out 3).trans rfl; have hc4 : w5.cell? ⟨gb, 4, none⟩ = some (.int .i64 a0_4) := (blk_cell BK.out 4).trans rfl; have hc5 : w5.cell? ⟨gb, 5, none⟩ = some (.int .i64 a0_5) := (blk_cell BK.out 5).trans rfl; have hc6 : w5.cell? ⟨gb, 6, none⟩ = some (.int .i64 a0_6) := (blk_cell BK.out 6).trans rfl; have hc7 : w5.cell? ⟨gb, 7, none⟩ = some (.slice A7 l0_7.length c7) := (blk_cell BK.out 7).trans rfl; have hc8 : w5.cell? ⟨gb, 8, none⟩ = some (.slice A8 l0_8.length c8) := (blk_cell BK.out 8).trans rfl; have hc9 : w5.cell? ⟨gb, 9, none⟩ = some (.slice A9 l0_9.length c9) := (blk_cell BK.out 9).trans rfl; have hf0 := blk_frozen BK.out 0; have hf1 := blk_frozen BK.out 1; have hf2 := blk_frozen BK.out 2; have hf3 := blk_frozen BK.out 3; have hf4 := blk_frozen BK.out 4; have hf5 := blk_frozen BK.out 5; have hf6 := blk_frozen BK.out 6; have hf7 := blk_frozen BK.out 7; have hf8 := blk_frozen BK.out 8; have hf9 := blk_frozen BK.out 9) | ((with_reducible refine gate_callee (f := 33) rfl ?_); refine goesL_ (some 8) rfl rfl Try.func33 (by kernel_rfl) rfl #[.agg #[.int .i64 a0_1, .int .i64 a0_2, .int .i64 a0_3, .int .i64 a0_4, .int .i64 a0_5, .int .i64 a0_6, .slice A7 l0_7.length c7, .slice A8 l0_8.length c8, .slice A9 l0_9.length c9], .int .i64 a1] rfl (by (try simp only [List.map_toArray, List.map_cons, List.map_nil]); first | done | rfl) ?_; refine (laws_markPart.calls k (fun k_ => P7_ k_ ∧ k_ < w.heap.size) (fun k_ => P8_ k_ ∧ k_ < w.heap.size) (fun k_ => P9_ k_ ∧ k_ < w.heap.size) _ _ _ a0_1 a0_2 a0_3 a0_4 a0_5 a0_6 l0_7 l0_8 l0_9 a1 r1 r2 r3 r4 w0 _ HB.out HO7.out HO8.out HO9.out (fun k_ hk hs => HP7_8.out k_ hk.1 hs.1) (fun k_ hk hs => HP7_9.out k_ hk.1 hs.1) (fun k_ hk hs => HP8_9.out k_ hk.1 hs.1) HA.out).mono ?_; rintro e w7 ⟨rfl, hy7, hy8, hy9, hb, hkp⟩; refine ⟨_, rfl, ?_⟩; have hle := HK.out.1; have n7 := Aside0.mk (Kd.R_mono (ok' := fun k_ => P7_ k_ ∨ w.heap.size ≤ k_) hy7 (fun k_ hk => hk.elim (fun h_ => .inl h_.1) (fun h_ => .inr (Nat.le_trans hle h_)))); have n8 := Aside0.mk (Kd.R_mono (ok' := fun k_ => P8_ k_ ∨ w.heap.size ≤ k_) hy8 (fun k_ hk => hk.elim (fun h_ => .inl h_.1) (fun h_ => .inr (Nat.le_trans hle h_)))); have n9 := Aside0.mk (Kd.S_mono (ok' := fun k_ => P9_ k_ ∨ w.heap.size ≤ k_) hy9 (fun k_ hk => hk.elim (fun h_ => .inl h_.1) (fun h_ => .inr (Nat.le_trans hle h_)))); have n_k := Aside0.mk (Kept.then_ HK.out hkp (fun k_ hs => .inl (by rcases hs with hs | hs | hs <;> simp [hs]))); have n_b := Aside0.mk hb; clear HO7 hy7 HO8 hy8 HO9 hy9 HB HK hb hkp hle; have HO7 := n7; have HO8 := n8; have HO9 := n9; have HB := n_b; have HK := n_k))
  go_ret
  exact ⟨by first | rfl | (simp; done) | simp_all, HO7.out, HO8.out, HO9.out, HB.out, HK.out⟩

/-! ### laws_heldInt64S: function 83 -/
def laws_heldInt64S.l0 : Nat → List Int → Int → Int → Option (Int)
 | 0, _, _, _ => none
 | k + 1, x0, x1, x5 => if x5 < (x0.length : Int) then (if 0 ≤ x5 then (if (rd x0 x5) = x1 then (laws_heldInt64S.l0 k x0 (wrap64 (x1 + 1)) (wrap64 (x5 + 1))) else (none)) else (none)) else (some x1)
def laws_heldInt64S.f (k : Nat) (l0 : List Int) (a1 : Int) : Option (Int) := laws_heldInt64S.l0 k l0 a1 0
theorem laws_heldInt64S.mono_l : ∀ k, (∀ y0 y1 y2, LeO (laws_heldInt64S.l0 k y0 y1 y2) (laws_heldInt64S.l0 (k + 1) y0 y1 y2))
 | 0 => fun _ _ _ r h => by simp [laws_heldInt64S.l0] at h
 | k + 1 => by
  have ih0 := laws_heldInt64S.mono_l k
  ·intro y0 y1 y2
   unfold laws_heldInt64S.l0
   repeat' first
   | (with_reducible exact ih0 _ _ _)
   | (with_reducible exact LeO.refl _)
   | (with_reducible exact LeO.none _)
   | (with_reducible refine LeO.ite ?_ ?_)
   | (with_reducible refine LeO.bind ?_ (fun _ => ?_))
   | exact ih0 _ _ _
   | exact LeO.none _
   | refine LeO.ite ?_ ?_
   | refine LeO.bind ?_ (fun _ => ?_)
theorem laws_heldInt64S.mono : ∀ a0 a1 k, LeO (laws_heldInt64S.f k a0 a1) (laws_heldInt64S.f (k + 1) a0 a1) := by
 intro a0 a1 k
 have ih0 := laws_heldInt64S.mono_l k
 unfold laws_heldInt64S.f
 repeat' first
   | (with_reducible exact ih0 _ _ _)
   | (with_reducible exact LeO.refl _)
   | (with_reducible exact LeO.none _)
   | (with_reducible refine LeO.ite ?_ ?_)
   | (with_reducible refine LeO.bind ?_ (fun _ => ?_))
   | exact ih0 _ _ _
   | exact LeO.none _
   | refine LeO.ite ?_ ?_
   | refine LeO.bind ?_ (fun _ => ?_)
set_option maxHeartbeats 8000000 in
set_option maxRecDepth 100000 in
theorem laws_heldInt64S.calls (k : Nat) (A0 : Option Addr) (c0 : Nat) (l0 : List Int) (a1 : Int) (r : Int) (w : World) (hr0 : Kd.C (Kd.int .i64) w A0 l0.length l0) (hc0 : l0.length ≤ c0) (h : laws_heldInt64S.f k l0 a1 = some r) :
  Calls Try.prog 83 #[.slice A0 l0.length c0, .int .i64 a1] w fun e w' => e = .returned (.int .i64 r) ∧ Drawn0 w w' := by
 have HR0 := Aside0.mk hr0
 have HC0 := Aside0.mk hc0
 clear hr0 hc0
 have H : (laws_heldInt64S.l0 k l0 a1 0) = some r := h
 clear h
 have H' := Aside0.mk H
 clear H
 go_enter Try.func83, Try.ntmps83
 go_wp2
 go_loopg [1, 5] k (fun kq v1 v5 w' => ∃ (x1_1 : Int) (x5_1 : Int), v1 = .int .i64 x1_1 ∧ v5 = .int .i64 x5_1 ∧ Aside0 (laws_heldInt64S.l0 kq l0 x1_1 x5_1 = some r) ∧ Aside0 (kq ≤ k) ∧ Drawn0 w w')
 case atStart => exact ⟨(a1), (0), rq, rq, H', ⟨Nat.le_refl _⟩, by repeat (first | exact Drawn0.refl _ | apply Drawn0.step)⟩
 case round =>
  clear H'
  try clear p2
  obtain ⟨x1_1, x5_1, rfl, rfl, HA, HK1, ⟨m1, rfl⟩⟩ := hrel
  cases gk with
  | zero => exact absurd HA.out (by simp [laws_heldInt64S.l0])
  | succ k1 =>
   have H := HA.out
   clear HA
   simp only [laws_heldInt64S.l0] at H
   by_cases c3 : x5_1 < (l0.length : Int)
   ·rw [if_pos c3] at H
    have c3b0 : decide (x5_1 < (l0.length : Int)) = true := decide_eq_true c3
    clear c3
    by_cases c4 : 0 ≤ x5_1
    ·rw [if_pos c4] at H
     have c4b0 : decide (0 ≤ x5_1) = true := decide_eq_true c4
     clear c4
     by_cases c5 : (rd l0 x5_1) = x1_1
     ·rw [if_pos c5] at H
      have c5b0 : ((rd l0 x5_1) == x1_1) = true := beq_iff_eq.mpr c5
      have c5b1 : ((rd l0 x5_1) != x1_1) = false := bne_eq_false_iff_eq.mpr c5
      clear c5
      have H' := Aside0.mk H
      clear H
      have p442 : 0 ≤ (x5_1 : Int) := dta
      have q442 : x5_1 < (l0.length : Int) := dta
      obtain ⟨ad442, e442, hx442_0⟩ := Kd.at_int HR0.out x5_1 p442 q442
      cases e442
      replace p442 := eq_true p442
      replace q442 := eq_true q442
      go_wp2
      go_roundg k1
      case measure => have := HK1.out; omega
      case rel => exact ⟨(wrap64 (x1_1 + 1)), (wrap64 (x5_1 + 1)), rq, rq, H', ⟨by have := HK1.out; omega⟩, by repeat (first | exact Drawn0.refl _ | apply Drawn0.step)⟩
     ·rw [if_neg c5] at H
      exact absurd H (by simp)
    ·rw [if_neg c4] at H
     exact absurd H (by simp)
   ·rw [if_neg c3] at H
    have c3b0 : decide (x5_1 < (l0.length : Int)) = false := decide_eq_false c3
    clear c3
    obtain rfl := Option.some.inj H
    go_wp2
    go_ret
    exact dsq

/-! ### laws_heldInt64SS: function 170 -/
def laws_heldInt64SS.l0 : Nat → List (List Int) → Int → Int → Option (Int)
 | 0, _, _, _ => none
 | k + 1, x0, x1, x5 => if x5 < (x0.length : Int) then (if 0 ≤ x5 then ((laws_heldInt64S.f k (rd_L1 x0 x5) x1).bind fun t444 => (if t444 < 0 then (none) else (laws_heldInt64SS.l0 k x0 t444 (wrap64 (x5 + 1))))) else (none)) else (some x1)
def laws_heldInt64SS.f (k : Nat) (l0 : List (List Int)) (a1 : Int) : Option (Int) := laws_heldInt64SS.l0 k l0 a1 0
theorem laws_heldInt64SS.mono_l : ∀ k, (∀ y0 y1 y2, LeO (laws_heldInt64SS.l0 k y0 y1 y2) (laws_heldInt64SS.l0 (k + 1) y0 y1 y2))
 | 0 => fun _ _ _ r h => by simp [laws_heldInt64SS.l0] at h
 | k + 1 => by
  have ih0 := laws_heldInt64SS.mono_l k
  ·intro y0 y1 y2
   unfold laws_heldInt64SS.l0
   repeat' first
   | (with_reducible exact ih0 _ _ _)
   | (with_reducible exact laws_heldInt64S.mono _ _ _)
   | (with_reducible exact LeO.refl _)
   | (with_reducible exact LeO.none _)
   | (with_reducible refine LeO.ite ?_ ?_)
   | (with_reducible refine LeO.bind ?_ (fun _ => ?_))
   | exact ih0 _ _ _
   | exact laws_heldInt64S.mono _ _ _
   | exact LeO.none _
   | refine LeO.ite ?_ ?_
   | refine LeO.bind ?_ (fun _ => ?_)
theorem laws_heldInt64SS.mono : ∀ a0 a1 k, LeO (laws_heldInt64SS.f k a0 a1) (laws_heldInt64SS.f (k + 1) a0 a1) := by
 intro a0 a1 k
 have ih0 := laws_heldInt64SS.mono_l k
 unfold laws_heldInt64SS.f
 repeat' first
   | (with_reducible exact ih0 _ _ _)
   | (with_reducible exact laws_heldInt64S.mono _ _ _)
   | (with_reducible exact LeO.refl _)
   | (with_reducible exact LeO.none _)
   | (with_reducible refine LeO.ite ?_ ?_)
   | (with_reducible refine LeO.bind ?_ (fun _ => ?_))
   | exact ih0 _ _ _
   | exact laws_heldInt64S.mono _ _ _
   | exact LeO.none _
   | refine LeO.ite ?_ ?_
   | refine LeO.bind ?_ (fun _ => ?_)
set_option maxHeartbeats 8000000 in
set_option maxRecDepth 100000 in
theorem laws_heldInt64SS.calls (k : Nat) (A0 : Option Addr) (c0 : Nat) (l0 : List (List Int)) (a1 : Int) (r : Int) (w : World) (hr0 : Kd.C (Kd.slice 2 (Kd.int .i64)) w A0 l0.length l0) (hc0 : l0.length ≤ c0) (h : laws_heldInt64SS.f k l0 a1 = some r) :
  Calls Try.prog 170 #[.slice A0 l0.length c0, .int .i64 a1] w fun e w' => e = .returned (.int .i64 r) ∧ Drawn0 w w' := by
 have HR0 := Aside0.mk hr0
 have HC0 := Aside0.mk hc0
 clear hr0 hc0
 have H : (laws_heldInt64SS.l0 k l0 a1 0) = some r := h
 clear h
 have H' := Aside0.mk H
 clear H
 go_enter Try.func170, Try.ntmps170
 go_wp2
 go_loopg [1, 5] k (fun kq v1 v5 w' => ∃ (x1_1 : Int) (x5_1 : Int), v1 = .int .i64 x1_1 ∧ v5 = .int .i64 x5_1 ∧ Aside0 (laws_heldInt64SS.l0 kq l0 x1_1 x5_1 = some r) ∧ Aside0 (kq ≤ k) ∧ Drawn0 w w')
 case atStart => exact ⟨(a1), (0), rq, rq, H', ⟨Nat.le_refl _⟩, by repeat (first | exact Drawn0.refl _ | apply Drawn0.step)⟩
 case round =>
  clear H'
  try clear c1
  try clear p2
  obtain ⟨x1_1, x5_1, rfl, rfl, HA, HK1, ⟨m1, rfl⟩⟩ := hrel
  cases gk with
  | zero => exact absurd HA.out (by simp [laws_heldInt64SS.l0])
  | succ k1 =>
   have H := HA.out
   clear HA
   simp only [laws_heldInt64SS.l0] at H
   by_cases c3 : x5_1 < (l0.length : Int)
   ·rw [if_pos c3] at H
    have c3b0 : decide (x5_1 < (l0.length : Int)) = true := decide_eq_true c3
    clear c3
    by_cases c4 : 0 ≤ x5_1
    ·rw [if_pos c4] at H
     have c4b0 : decide (0 ≤ x5_1) = true := decide_eq_true c4
     clear c4
     obtain ⟨t444, A5, H⟩ := bnd H
     by_cases c6 : t444 < 0
     ·rw [if_pos c6] at H
      exact absurd H (by simp)
     ·rw [if_neg c6] at H
      have c6b0 : decide (t444 < 0) = false := decide_eq_false c6
      clear c6
      have H' := Aside0.mk H
      clear H
      have p443 : 0 ≤ (x5_1 : Int) := dta
      have q443 : x5_1 < (l0.length : Int) := dta
      obtain ⟨ad443, A443_0, c443_0, e443, hx443_0, hl443_0, hi443_0⟩ := at_L1 HR0.out x5_1 p443 q443
      cases e443
      have HR443_0 := Aside0.mk hi443_0
      have HC443_0 := Aside0.mk hl443_0
      clear hi443_0 hl443_0
      replace p443 := eq_true p443
      replace q443 := eq_true q443
      go_wp2_with (first | ((with_reducible refine gate_callee (f := 83) rfl ?_); refine gl_ 17 Try.func83 #[.slice A443_0 (rd_L1 l0 x5_1).length c443_0, .int .i64 x1_1] ?_; (with_reducible refine (laws_heldInt64S.calls k1 _ _ (rd_L1 l0 x5_1) x1_1 t444 _ ?side1 ?side2 A5.out).mono ?_); (case side1 => repeat (first | exact HR443_0.out | (with_reducible refine Kd.C_alloc ?_ _) | (with_reducible refine Kd.C_drewN ?_ _) | (with_reducible refine Kd.C_drew ?_))); (case side2 => exact HC443_0.out); rintro e w' ⟨rfl, ⟨nd, rfl⟩⟩; refine ⟨_, rfl, ?_⟩))
      go_roundg k1
      case measure => have := HK1.out; omega
      case rel => exact ⟨(t444), (wrap64 (x5_1 + 1)), rq, rq, H', ⟨by have := HK1.out; omega⟩, by repeat (first | exact Drawn0.refl _ | apply Drawn0.step)⟩
    ·rw [if_neg c4] at H
     exact absurd H (by simp)
   ·rw [if_neg c3] at H
    have c3b0 : decide (x5_1 < (l0.length : Int)) = false := decide_eq_false c3
    clear c3
    obtain rfl := Option.some.inj H
    go_wp2
    go_ret
    exact dsq

/-! ### laws_heldPart: function 103 -/
def laws_heldPart.f (k : Nat) (a0_0 : Int) (a0_1 : Int) (a0_2 : Int) (a0_3 : Int) (a0_4 : Int) (a0_5 : Int) (l0_6 : List Int) (l0_7 : List Int) (l0_8 : List (List Int)) (a1 : Int) : Option (Int) := (laws_heldInt64S.f k l0_6 a1).bind fun t446 => (if t446 < 0 then (none) else ((laws_heldInt64S.f k l0_7 t446).bind fun t447 => (if t447 < 0 then (none) else ((laws_heldInt64SS.f k l0_8 t447).bind fun t448 => (if t448 < 0 then (none) else (some t448))))))
theorem laws_heldPart.mono : ∀ a0 a1 a2 a3 a4 a5 a6 a7 a8 a9 k, LeO (laws_heldPart.f k a0 a1 a2 a3 a4 a5 a6 a7 a8 a9) (laws_heldPart.f (k + 1) a0 a1 a2 a3 a4 a5 a6 a7 a8 a9) := by
 intro a0 a1 a2 a3 a4 a5 a6 a7 a8 a9 k
 unfold laws_heldPart.f
 repeat' first
   | (with_reducible exact laws_heldInt64S.mono _ _ _)
   | (with_reducible exact laws_heldInt64SS.mono _ _ _)
   | (with_reducible exact LeO.refl _)
   | (with_reducible exact LeO.none _)
   | (with_reducible refine LeO.ite ?_ ?_)
   | (with_reducible refine LeO.bind ?_ (fun _ => ?_))
   | exact laws_heldInt64S.mono _ _ _
   | exact laws_heldInt64SS.mono _ _ _
   | exact LeO.none _
   | refine LeO.ite ?_ ?_
   | refine LeO.bind ?_ (fun _ => ?_)
set_option maxHeartbeats 8000000 in
set_option maxRecDepth 100000 in
theorem laws_heldPart.calls (k : Nat) (a0_0 : Int) (a0_1 : Int) (a0_2 : Int) (a0_3 : Int) (a0_4 : Int) (a0_5 : Int) (A0_6 : Option Addr) (c0_6 : Nat) (l0_6 : List Int) (A0_7 : Option Addr) (c0_7 : Nat) (l0_7 : List Int) (A0_8 : Option Addr) (c0_8 : Nat) (l0_8 : List (List Int)) (a1 : Int) (r : Int) (w : World) (hr0_6 : Kd.C (Kd.int .i64) w A0_6 l0_6.length l0_6) (hc0_6 : l0_6.length ≤ c0_6) (hr0_7 : Kd.C (Kd.int .i64) w A0_7 l0_7.length l0_7) (hc0_7 : l0_7.length ≤ c0_7) (hr0_8 : Kd.C (Kd.slice 2 (Kd.int .i64)) w A0_8 l0_8.length l0_8) (hc0_8 : l0_8.length ≤ c0_8) (h : laws_heldPart.f k a0_0 a0_1 a0_2 a0_3 a0_4 a0_5 l0_6 l0_7 l0_8 a1 = some r) :
  Calls Try.prog 103 #[.agg #[.int .i64 a0_0, .int .i64 a0_1, .int .i64 a0_2, .int .i64 a0_3, .int .i64 a0_4, .int .i64 a0_5, .slice A0_6 l0_6.length c0_6, .slice A0_7 l0_7.length c0_7, .slice A0_8 l0_8.length c0_8], .int .i64 a1] w fun e w' => e = .returned (.int .i64 r) ∧ Below w.heap.size w w' := by
 have hu47 := Try.underlying47
 have HR0_6 := Aside0.mk hr0_6
 have HC0_6 := Aside0.mk hc0_6
 clear hr0_6 hc0_6
 have HR0_7 := Aside0.mk hr0_7
 have HC0_7 := Aside0.mk hc0_7
 clear hr0_7 hc0_7
 have HR0_8 := Aside0.mk hr0_8
 have HC0_8 := Aside0.mk hc0_8
 clear hr0_8 hc0_8
 have HB := Aside0.mk (Below.refl w.heap.size w)
 have H : ((laws_heldInt64S.f k l0_6 a1).bind fun t446 => (if t446 < 0 then (none) else ((laws_heldInt64S.f k l0_7 t446).bind fun t447 => (if t447 < 0 then (none) else ((laws_heldInt64SS.f k l0_8 t447).bind fun t448 => (if t448 < 0 then (none) else (some t448))))))) = some r := h
 clear h
 obtain ⟨t446, A3, H⟩ := bnd H
 by_cases c4 : t446 < 0
 ·rw [if_pos c4] at H
  exact absurd H (by simp)
 ·rw [if_neg c4] at H
  have c4b0 : decide (t446 < 0) = false := decide_eq_false c4
  clear c4
  obtain ⟨t447, A5, H⟩ := bnd H
  by_cases c6 : t447 < 0
  ·rw [if_pos c6] at H
   exact absurd H (by simp)
  ·rw [if_neg c6] at H
   have c6b0 : decide (t447 < 0) = false := decide_eq_false c6
   clear c6
   obtain ⟨t448, A7, H⟩ := bnd H
   by_cases c8 : t448 < 0
   ·rw [if_pos c8] at H
    exact absurd H (by simp)
   ·rw [if_neg c8] at H
    have c8b0 : decide (t448 < 0) = false := decide_eq_false c8
    clear c8
    obtain rfl := Option.some.inj H
    go_enter Try.func103, Try.ntmps103
    go_wp2_with (first | ((with_reducible refine gate_dst (N := 2) rfl ?_); refine bev 2 47 #[.int .i64 a0_0, .int .i64 a0_1, .int .i64 a0_2, .int .i64 a0_3, .int .i64 a0_4, .int .i64 a0_5, .slice A0_6 l0_6.length c0_6, .slice A0_7 l0_7.length c0_7, .slice A0_8 l0_8.length c0_8] ?_; intro gb445 hg w9 hbox hb; have BK445 := am hbox; have GW445 := gwe hg; have GE445 := gwe hg; replace HB := hbs hb; clear hb hbox hg; obtain ⟨hcz10_0, hcz10_1, hcz10_2, hcz10_3, hcz10_4, hcz10_5, hcz10_6, hcz10_7, hcz10_8, hfz10_0, hfz10_1, hfz10_2, hfz10_3, hfz10_4, hfz10_5, hfz10_6, hfz10_7, hfz10_8⟩ := cf9 (W := w9) BK445.out) | ((with_reducible refine gate_callee (f := 83) rfl ?_); refine gl_ 8 Try.func83 #[.slice A0_6 l0_6.length c0_6, .int .i64 a1] ?_; (with_reducible refine (laws_heldInt64S.calls k _ _ l0_6 a1 t446 _ ?_ ?_ A3.out).mono ?_); exact cpl HR0_6.out; exact HC0_6.out; rintro e w' ⟨rfl, ⟨nd, rfl⟩⟩; refine ⟨_, rfl, ?_⟩) | ((with_reducible refine gate_callee (f := 83) rfl ?_); refine gl_ 14 Try.func83 #[.slice A0_7 l0_7.length c0_7, .int .i64 t446] ?_; (with_reducible refine (laws_heldInt64S.calls k _ _ l0_7 t446 t447 _ ?side1 ?side2 A5.out).mono ?_); (case side1 => repeat (first | exact (Kd.C_below HR0_7.out bnx) | (with_reducible refine Kd.C_alloc ?_ _) | (with_reducible refine Kd.C_drewN ?_ _) | (with_reducible refine Kd.C_drew ?_))); (case side2 => exact HC0_7.out); rintro e w' ⟨rfl, ⟨nd, rfl⟩⟩; refine ⟨_, rfl, ?_⟩) | ((with_reducible refine gate_callee (f := 170) rfl ?_); refine gl_ 20 Try.func170 #[.slice A0_8 l0_8.length c0_8, .int .i64 t447] ?_; (with_reducible refine (laws_heldInt64SS.calls k _ _ l0_8 t447 t448 _ ?side1 ?side2 A7.out).mono ?_); (case side1 => repeat (first | exact (Kd.C_below HR0_8.out bnx) | (with_reducible refine Kd.C_alloc ?_ _) | (with_reducible refine Kd.C_drewN ?_ _) | (with_reducible refine Kd.C_drew ?_))); (case side2 => exact HC0_8.out); rintro e w' ⟨rfl, ⟨nd, rfl⟩⟩; refine ⟨_, rfl, ?_⟩))
    go_ret
    exact ⟨enq, bnx⟩

/-! ### laws_heldPartResult: function 40 -/
def laws_heldPartResult.f (k : Nat) (a0_0 : Int) (a0_1 : Int) (a0_2 : Int) (a0_3 : Int) (a0_4 : Int) (a0_5 : Int) (a0_6 : Int) (l0_7 : List Int) (l0_8 : List Int) (l0_9 : List (List Int)) (a1 : Int) : Option (Int) := (laws_heldPart.f k a0_1 a0_2 a0_3 a0_4 a0_5 a0_6 l0_7 l0_8 l0_9 a1).bind fun t450 => (if t450 < 0 then (none) else (some t450))
theorem laws_heldPartResult.mono : ∀ a0 a1 a2 a3 a4 a5 a6 a7 a8 a9 a10 k, LeO (laws_heldPartResult.f k a0 a1 a2 a3 a4 a5 a6 a7 a8 a9 a10) (laws_heldPartResult.f (k + 1) a0 a1 a2 a3 a4 a5 a6 a7 a8 a9 a10) := by
 intro a0 a1 a2 a3 a4 a5 a6 a7 a8 a9 a10 k
 unfold laws_heldPartResult.f
 repeat' first
   | (with_reducible exact laws_heldPart.mono _ _ _ _ _ _ _ _ _ _ _)
   | (with_reducible exact LeO.refl _)
   | (with_reducible exact LeO.none _)
   | (with_reducible refine LeO.ite ?_ ?_)
   | (with_reducible refine LeO.bind ?_ (fun _ => ?_))
   | exact laws_heldPart.mono _ _ _ _ _ _ _ _ _ _ _
   | exact LeO.none _
   | refine LeO.ite ?_ ?_
   | refine LeO.bind ?_ (fun _ => ?_)
set_option maxHeartbeats 8000000 in
set_option maxRecDepth 100000 in
theorem laws_heldPartResult.calls (k : Nat) (a0_0 : Int) (a0_1 : Int) (a0_2 : Int) (a0_3 : Int) (a0_4 : Int) (a0_5 : Int) (a0_6 : Int) (A0_7 : Option Addr) (c0_7 : Nat) (l0_7 : List Int) (A0_8 : Option Addr) (c0_8 : Nat) (l0_8 : List Int) (A0_9 : Option Addr) (c0_9 : Nat) (l0_9 : List (List Int)) (a1 : Int) (r : Int) (w : World) (hr0_7 : Kd.C (Kd.int .i64) w A0_7 l0_7.length l0_7) (hc0_7 : l0_7.length ≤ c0_7) (hr0_8 : Kd.C (Kd.int .i64) w A0_8 l0_8.length l0_8) (hc0_8 : l0_8.length ≤ c0_8) (hr0_9 : Kd.C (Kd.slice 2 (Kd.int .i64)) w A0_9 l0_9.length l0_9) (hc0_9 : l0_9.length ≤ c0_9) (h : laws_heldPartResult.f k a0_0 a0_1 a0_2 a0_3 a0_4 a0_5 a0_6 l0_7 l0_8 l0_9 a1 = some r) :
  Calls Try.prog 40 #[.agg #[.int .i64 a0_0, .int .i64 a0_1, .int .i64 a0_2, .int .i64 a0_3, .int .i64 a0_4, .int .i64 a0_5, .int .i64 a0_6, .slice A0_7 l0_7.length c0_7, .slice A0_8 l0_8.length c0_8, .slice A0_9 l0_9.length c0_9], .int .i64 a1] w fun e w' => e = .returned (.int .i64 r) ∧ Below w.heap.size w w' := by
 have hu53 := Try.underlying53
 have hu47 := Try.underlying47
 have HR0_7 := Aside0.mk hr0_7
 have HC0_7 := Aside0.mk hc0_7
 clear hr0_7 hc0_7
 have HR0_8 := Aside0.mk hr0_8
 have HC0_8 := Aside0.mk hc0_8
 clear hr0_8 hc0_8
 have HR0_9 := Aside0.mk hr0_9
 have HC0_9 := Aside0.mk hc0_9
 clear hr0_9 hc0_9
 have HB := Aside0.mk (Below.refl w.heap.size w)
 have H : ((laws_heldPart.f k a0_1 a0_2 a0_3 a0_4 a0_5 a0_6 l0_7 l0_8 l0_9 a1).bind fun t450 => (if t450 < 0 then (none) else (some t450))) = some r := h
 clear h
 obtain ⟨t450, A3, H⟩ := bnd H
 by_cases c4 : t450 < 0
 ·rw [if_pos c4] at H
  exact absurd H (by simp)
 ·rw [if_neg c4] at H
  have c4b0 : decide (t450 < 0) = false := decide_eq_false c4
  clear c4
  obtain rfl := Option.some.inj H
  go_enter Try.func40, Try.ntmps40
  go_wp2_with (first | ((with_reducible refine gate_dst (N := 2) rfl ?_); refine bev 2 53 #[.int .i64 a0_0, .int .i64 a0_1, .int .i64 a0_2, .int .i64 a0_3, .int .i64 a0_4, .int .i64 a0_5, .int .i64 a0_6, .slice A0_7 l0_7.length c0_7, .slice A0_8 l0_8.length c0_8, .slice A0_9 l0_9.length c0_9] ?_; intro gb449 hg w5 hbox hb; have BK449 := am hbox; have GW449 := gwe hg; have GE449 := gwe hg; replace HB := hbs hb; clear hb hbox hg; obtain ⟨hcz6_0, hcz6_1, hcz6_2, hcz6_3, hcz6_4, hcz6_5, hcz6_6, hcz6_7, hcz6_8, hcz6_9, hfz6_0, hfz6_1, hfz6_2, hfz6_3, hfz6_4, hfz6_5, hfz6_6, hfz6_7, hfz6_8, hfz6_9⟩ := cf10 (W := w5) BK449.out) | ((with_reducible refine gate_callee (f := 103) rfl ?_); refine gl_ 8 Try.func103 #[.agg #[.int .i64 a0_1, .int .i64 a0_2, .int .i64 a0_3, .int .i64 a0_4, .int .i64 a0_5, .int .i64 a0_6, .slice A0_7 l0_7.length c0_7, .slice A0_8 l0_8.length c0_8, .slice A0_9 l0_9.length c0_9], .int .i64 a1] ?_; (with_reducible refine (laws_heldPart.calls k a0_1 a0_2 a0_3 a0_4 a0_5 a0_6 _ _ l0_7 _ _ l0_8 _ _ l0_9 a1 t450 _ ?_ ?_ ?_ ?_ ?_ ?_ A3.out).mono ?_); exact cpl HR0_7.out; exact HC0_7.out; exact cpl HR0_8.out; exact HC0_8.out; exact cpl HR0_9.out; exact HC0_9.out; rintro e w7 ⟨rfl, hb⟩; refine ⟨_, rfl, ?_⟩; replace BK449 := bkb BK449 hb; replace HB := hbs hb; (try clear hb)))
  go_ret
  exact ⟨enq, bnx⟩

/-! What a law keeps: the blocks that lie between two marks. -/
section
variable {α : Type} {d : Kd α} {e base a b : Nat} {ok : Nat → Prop} {w W : World} {v : Value} {xs : List α}
theorem lw_Rcap (h : d.R e w base ok v xs) : d.R e w base (fun k_ => ok k_ ∧ base ≤ k_ ∧ k_ < w.heap.size) v xs := Kd.R_mono (Kd.R_bound h) (fun _ hk => ⟨hk.1, hk.2.1, hk.2.2.1⟩)
theorem lw_Scap (h : Kd.S d e w base ok v xs) : Kd.S d e w base (fun k_ => ok k_ ∧ base ≤ k_ ∧ k_ < w.heap.size) v xs := Kd.S_mono (Kd.S_bound h) (fun _ hk => ⟨hk.1, hk.2.1, hk.2.2.1⟩)
theorem lw_Rheld (h : d.R e w base (fun k_ => ok k_ ∧ a ≤ k_ ∧ k_ < b) v xs) (hk : Kept w W (fun k_ => ¬ (a ≤ k_ ∧ k_ < b))) : d.R e W base (fun k_ => ok k_ ∧ a ≤ k_ ∧ k_ < b) v xs := Kd.R_kept h hk (fun _ ho hn => hn ho.2)
theorem lw_Sheld (h : Kd.S d e w base (fun k_ => ok k_ ∧ a ≤ k_ ∧ k_ < b) v xs) (hk : Kept w W (fun k_ => ¬ (a ≤ k_ ∧ k_ < b))) : Kd.S d e W base (fun k_ => ok k_ ∧ a ≤ k_ ∧ k_ < b) v xs := Kd.S_kept h hk (fun _ ho hn => hn ho.2)
theorem lw_Rlen {A : Option Addr} {n c : Nat} (h : d.R e w base ok (.slice A n c) xs) : xs.length ≤ c := by have h_ := Kd.R_reads' h; have := h_.1; have := h_.2.1; omega
theorem lw_Slen {A : Option Addr} {n c : Nat} (h : Kd.S d e w base ok (.slice A n c) xs) : xs.length ≤ c := by have h_ := Kd.S_reads' h; have := h_.1; have := h_.2.1; omega
end
theorem lw_cells8 {W : World} {g T : Nat} {a0 a1 a2 a3 a4 a5 a6 a7 : Value} (hb : W.heap[g]? = some (.cells #[a0, a1, a2, a3, a4, a5, a6, a7] T (0, 0))) : W.cell? ⟨g, 0, none⟩ = some a0 ∧ W.cell? ⟨g, 1, none⟩ = some a1 ∧ W.cell? ⟨g, 2, none⟩ = some a2 ∧ W.cell? ⟨g, 3, none⟩ = some a3 ∧ W.cell? ⟨g, 4, none⟩ = some a4 ∧ W.cell? ⟨g, 5, none⟩ = some a5 ∧ W.cell? ⟨g, 6, none⟩ = some a6 ∧ W.cell? ⟨g, 7, none⟩ = some a7 := ⟨(blk_cell hb 0).trans rfl, (blk_cell hb 1).trans rfl, (blk_cell hb 2).trans rfl, (blk_cell hb 3).trans rfl, (blk_cell hb 4).trans rfl, (blk_cell hb 5).trans rfl, (blk_cell hb 6).trans rfl, (blk_cell hb 7).trans rfl⟩
theorem lw_frz8 {W : World} {g T : Nat} {cs : Array Value} (hb : W.heap[g]? = some (.cells cs T (0, 0))) : W.frozen? ⟨g, 0, none⟩ = false ∧ W.frozen? ⟨g, 1, none⟩ = false ∧ W.frozen? ⟨g, 2, none⟩ = false ∧ W.frozen? ⟨g, 3, none⟩ = false ∧ W.frozen? ⟨g, 4, none⟩ = false ∧ W.frozen? ⟨g, 5, none⟩ = false ∧ W.frozen? ⟨g, 6, none⟩ = false ∧ W.frozen? ⟨g, 7, none⟩ = false := ⟨blk_frozen hb 0, blk_frozen hb 1, blk_frozen hb 2, blk_frozen hb 3, blk_frozen hb 4, blk_frozen hb 5, blk_frozen hb 6, blk_frozen hb 7⟩
theorem lw_put8 {W : World} {g T : Nat} {z0 z1 z2 z3 z4 z5 z6 z7 : Value} (hb : W.heap[g]? = some (.cells #[z0, z1, z2, z3, z4, z5, z6, z7] T (0, 0))) (a0 a1 a2 a3 a4 a5 a6 a7 : Value) : ((((((((W.setCell ⟨g, 0, none⟩ a0).setCell ⟨g, 1, none⟩ a1).setCell ⟨g, 2, none⟩ a2).setCell ⟨g, 3, none⟩ a3).setCell ⟨g, 4, none⟩ a4).setCell ⟨g, 5, none⟩ a5).setCell ⟨g, 6, none⟩ a6).setCell ⟨g, 7, none⟩ a7).heap[g]? = some (.cells #[a0, a1, a2, a3, a4, a5, a6, a7] T (0, 0)) := by
  refine blk_put (cs := #[a0, a1, a2, a3, a4, a5, a6, z7]) ?_ 7 _ rfl
  refine blk_put (cs := #[a0, a1, a2, a3, a4, a5, z6, z7]) ?_ 6 _ rfl
  refine blk_put (cs := #[a0, a1, a2, a3, a4, z5, z6, z7]) ?_ 5 _ rfl
  refine blk_put (cs := #[a0, a1, a2, a3, z4, z5, z6, z7]) ?_ 4 _ rfl
  refine blk_put (cs := #[a0, a1, a2, z3, z4, z5, z6, z7]) ?_ 3 _ rfl
  refine blk_put (cs := #[a0, a1, z2, z3, z4, z5, z6, z7]) ?_ 2 _ rfl
  refine blk_put (cs := #[a0, z1, z2, z3, z4, z5, z6, z7]) ?_ 1 _ rfl
  refine blk_put (cs := #[z0, z1, z2, z3, z4, z5, z6, z7]) ?_ 0 _ rfl
  exact hb
theorem lw_set8 {W : World} {g : Nat} (a0 a1 a2 a3 a4 a5 a6 a7 : Value) : W.setCells g 0 [a0, a1, a2, a3, a4, a5, a6, a7] = ((((((((W.setCell ⟨g, 0, none⟩ a0).setCell ⟨g, 1, none⟩ a1).setCell ⟨g, 2, none⟩ a2).setCell ⟨g, 3, none⟩ a3).setCell ⟨g, 4, none⟩ a4).setCell ⟨g, 5, none⟩ a5).setCell ⟨g, 6, none⟩ a6).setCell ⟨g, 7, none⟩ a7) := rfl
theorem lw_putk8 {w W : World} {S : Nat → Prop} {g : Nat} (hk : Kept w W S) (hg : S g ∨ w.heap.size ≤ g) (a0 a1 a2 a3 a4 a5 a6 a7 : Value) : Kept w ((((((((W.setCell ⟨g, 0, none⟩ a0).setCell ⟨g, 1, none⟩ a1).setCell ⟨g, 2, none⟩ a2).setCell ⟨g, 3, none⟩ a3).setCell ⟨g, 4, none⟩ a4).setCell ⟨g, 5, none⟩ a5).setCell ⟨g, 6, none⟩ a6).setCell ⟨g, 7, none⟩ a7) S := Kept.setCell (p := ⟨g, 7, none⟩) (Kept.setCell (p := ⟨g, 6, none⟩) (Kept.setCell (p := ⟨g, 5, none⟩) (Kept.setCell (p := ⟨g, 4, none⟩) (Kept.setCell (p := ⟨g, 3, none⟩) (Kept.setCell (p := ⟨g, 2, none⟩) (Kept.setCell (p := ⟨g, 1, none⟩) (Kept.setCell (p := ⟨g, 0, none⟩) (hk) hg a0) hg a1) hg a2) hg a3) hg a4) hg a5) hg a6) hg a7
theorem lw_putb8 {w W : World} {g : Nat} (hk : Below w.heap.size w W) (hg : w.heap.size ≤ g) (a0 a1 a2 a3 a4 a5 a6 a7 : Value) : Below w.heap.size w ((((((((W.setCell ⟨g, 0, none⟩ a0).setCell ⟨g, 1, none⟩ a1).setCell ⟨g, 2, none⟩ a2).setCell ⟨g, 3, none⟩ a3).setCell ⟨g, 4, none⟩ a4).setCell ⟨g, 5, none⟩ a5).setCell ⟨g, 6, none⟩ a6).setCell ⟨g, 7, none⟩ a7) := below_set (below_set (below_set (below_set (below_set (below_set (below_set (below_set (hk) hg) hg) hg) hg) hg) hg) hg) hg
theorem lw_cells10 {W : World} {g T : Nat} {a0 a1 a2 a3 a4 a5 a6 a7 a8 a9 : Value} (hb : W.heap[g]? = some (.cells #[a0, a1, a2, a3, a4, a5, a6, a7, a8, a9] T (0, 0))) : W.cell? ⟨g, 0, none⟩ = some a0 ∧ W.cell? ⟨g, 1, none⟩ = some a1 ∧ W.cell? ⟨g, 2, none⟩ = some a2 ∧ W.cell? ⟨g, 3, none⟩ = some a3 ∧ W.cell? ⟨g, 4, none⟩ = some a4 ∧ W.cell? ⟨g, 5, none⟩ = some a5 ∧ W.cell? ⟨g, 6, none⟩ = some a6 ∧ W.cell? ⟨g, 7, none⟩ = some a7 ∧ W.cell? ⟨g, 8, none⟩ = some a8 ∧ W.cell? ⟨g, 9, none⟩ = some a9 := ⟨(blk_cell hb 0).trans rfl, (blk_cell hb 1).trans rfl, (blk_cell hb 2).trans rfl, (blk_cell hb 3).trans rfl, (blk_cell hb 4).trans rfl, (blk_cell hb 5).trans rfl, (blk_cell hb 6).trans rfl, (blk_cell hb 7).trans rfl, (blk_cell hb 8).trans rfl, (blk_cell hb 9).trans rfl⟩
theorem lw_frz10 {W : World} {g T : Nat} {cs : Array Value} (hb : W.heap[g]? = some (.cells cs T (0, 0))) : W.frozen? ⟨g, 0, none⟩ = false ∧ W.frozen? ⟨g, 1, none⟩ = false ∧ W.frozen? ⟨g, 2, none⟩ = false ∧ W.frozen? ⟨g, 3, none⟩ = false ∧ W.frozen? ⟨g, 4, none⟩ = false ∧ W.frozen? ⟨g, 5, none⟩ = false ∧ W.frozen? ⟨g, 6, none⟩ = false ∧ W.frozen? ⟨g, 7, none⟩ = false ∧ W.frozen? ⟨g, 8, none⟩ = false ∧ W.frozen? ⟨g, 9, none⟩ = false := ⟨blk_frozen hb 0, blk_frozen hb 1, blk_frozen hb 2, blk_frozen hb 3, blk_frozen hb 4, blk_frozen hb 5, blk_frozen hb 6, blk_frozen hb 7, blk_frozen hb 8, blk_frozen hb 9⟩
theorem lw_put10 {W : World} {g T : Nat} {z0 z1 z2 z3 z4 z5 z6 z7 z8 z9 : Value} (hb : W.heap[g]? = some (.cells #[z0, z1, z2, z3, z4, z5, z6, z7, z8, z9] T (0, 0))) (a0 a1 a2 a3 a4 a5 a6 a7 a8 a9 : Value) : ((((((((((W.setCell ⟨g, 0, none⟩ a0).setCell ⟨g, 1, none⟩ a1).setCell ⟨g, 2, none⟩ a2).setCell ⟨g, 3, none⟩ a3).setCell ⟨g, 4, none⟩ a4).setCell ⟨g, 5, none⟩ a5).setCell ⟨g, 6, none⟩ a6).setCell ⟨g, 7, none⟩ a7).setCell ⟨g, 8, none⟩ a8).setCell ⟨g, 9, none⟩ a9).heap[g]? = some (.cells #[a0, a1, a2, a3, a4, a5, a6, a7, a8, a9] T (0, 0)) := by
  refine blk_put (cs := #[a0, a1, a2, a3, a4, a5, a6, a7, a8, z9]) ?_ 9 _ rfl
  refine blk_put (cs := #[a0, a1, a2, a3, a4, a5, a6, a7, z8, z9]) ?_ 8 _ rfl
  refine blk_put (cs := #[a0, a1, a2, a3, a4, a5, a6, z7, z8, z9]) ?_ 7 _ rfl
  refine blk_put (cs := #[a0, a1, a2, a3, a4, a5, z6, z7, z8, z9]) ?_ 6 _ rfl
  refine blk_put (cs := #[a0, a1, a2, a3, a4, z5, z6, z7, z8, z9]) ?_ 5 _ rfl
  refine blk_put (cs := #[a0, a1, a2, a3, z4, z5, z6, z7, z8, z9]) ?_ 4 _ rfl
  refine blk_put (cs := #[a0, a1, a2, z3, z4, z5, z6, z7, z8, z9]) ?_ 3 _ rfl
  refine blk_put (cs := #[a0, a1, z2, z3, z4, z5, z6, z7, z8, z9]) ?_ 2 _ rfl
  refine blk_put (cs := #[a0, z1, z2, z3, z4, z5, z6, z7, z8, z9]) ?_ 1 _ rfl
  refine blk_put (cs := #[z0, z1, z2, z3, z4, z5, z6, z7, z8, z9]) ?_ 0 _ rfl
  exact hb
theorem lw_set10 {W : World} {g : Nat} (a0 a1 a2 a3 a4 a5 a6 a7 a8 a9 : Value) : W.setCells g 0 [a0, a1, a2, a3, a4, a5, a6, a7, a8, a9] = ((((((((((W.setCell ⟨g, 0, none⟩ a0).setCell ⟨g, 1, none⟩ a1).setCell ⟨g, 2, none⟩ a2).setCell ⟨g, 3, none⟩ a3).setCell ⟨g, 4, none⟩ a4).setCell ⟨g, 5, none⟩ a5).setCell ⟨g, 6, none⟩ a6).setCell ⟨g, 7, none⟩ a7).setCell ⟨g, 8, none⟩ a8).setCell ⟨g, 9, none⟩ a9) := rfl
theorem lw_putk10 {w W : World} {S : Nat → Prop} {g : Nat} (hk : Kept w W S) (hg : S g ∨ w.heap.size ≤ g) (a0 a1 a2 a3 a4 a5 a6 a7 a8 a9 : Value) : Kept w ((((((((((W.setCell ⟨g, 0, none⟩ a0).setCell ⟨g, 1, none⟩ a1).setCell ⟨g, 2, none⟩ a2).setCell ⟨g, 3, none⟩ a3).setCell ⟨g, 4, none⟩ a4).setCell ⟨g, 5, none⟩ a5).setCell ⟨g, 6, none⟩ a6).setCell ⟨g, 7, none⟩ a7).setCell ⟨g, 8, none⟩ a8).setCell ⟨g, 9, none⟩ a9) S := Kept.setCell (p := ⟨g, 9, none⟩) (Kept.setCell (p := ⟨g, 8, none⟩) (Kept.setCell (p := ⟨g, 7, none⟩) (Kept.setCell (p := ⟨g, 6, none⟩) (Kept.setCell (p := ⟨g, 5, none⟩) (Kept.setCell (p := ⟨g, 4, none⟩) (Kept.setCell (p := ⟨g, 3, none⟩) (Kept.setCell (p := ⟨g, 2, none⟩) (Kept.setCell (p := ⟨g, 1, none⟩) (Kept.setCell (p := ⟨g, 0, none⟩) (hk) hg a0) hg a1) hg a2) hg a3) hg a4) hg a5) hg a6) hg a7) hg a8) hg a9
theorem lw_putb10 {w W : World} {g : Nat} (hk : Below w.heap.size w W) (hg : w.heap.size ≤ g) (a0 a1 a2 a3 a4 a5 a6 a7 a8 a9 : Value) : Below w.heap.size w ((((((((((W.setCell ⟨g, 0, none⟩ a0).setCell ⟨g, 1, none⟩ a1).setCell ⟨g, 2, none⟩ a2).setCell ⟨g, 3, none⟩ a3).setCell ⟨g, 4, none⟩ a4).setCell ⟨g, 5, none⟩ a5).setCell ⟨g, 6, none⟩ a6).setCell ⟨g, 7, none⟩ a7).setCell ⟨g, 8, none⟩ a8).setCell ⟨g, 9, none⟩ a9) := below_set (below_set (below_set (below_set (below_set (below_set (below_set (below_set (below_set (below_set (hk) hg) hg) hg) hg) hg) hg) hg) hg) hg) hg

/-! ### laws_FnExactPartOf: function 7 -/
def laws_FnExactPartOf.f (k : Nat) (a0_0 : Int) (a0_1 : Int) (a0_2 : Int) (a0_3 : Int) (a0_4 : Int) (l0_5 : List Int) (l0_6 : List Int) (l0_7 : List (List Int)) (a1 : Int) : Option (Bool) := (laws_szFrame.f k a0_0 a0_1 a0_2 a0_3 a0_4 l0_5 l0_6 l0_7 1048576).bind fun b0 => if b0 < 0 then some true else (laws_toFrame.f k a0_0 a0_1 a0_2 a0_3 a0_4 l0_5 l0_6 l0_7).bind fun b2 => (spec_PartOf.f k b2.1 b2.2.1 b2.2.2.1 b2.2.2.2.1 b2.2.2.2.2.1 b2.2.2.2.2.2.1 b2.2.2.2.2.2.2.1 b2.2.2.2.2.2.2.2 a1).bind fun b3 => (impl_PartOf.f k b2.1 b2.2.1 b2.2.2.1 b2.2.2.2.1 b2.2.2.2.2.1 b2.2.2.2.2.2.1 b2.2.2.2.2.2.2.1 b2.2.2.2.2.2.2.2 a1).bind fun b4 => (laws_eqPartResult.f k b4.1 b4.2.1 b4.2.2.1 b4.2.2.2.1 b4.2.2.2.2.1 b4.2.2.2.2.2.1 b4.2.2.2.2.2.2.1 b4.2.2.2.2.2.2.2.1 b4.2.2.2.2.2.2.2.2.1 b4.2.2.2.2.2.2.2.2.2 b3.1 b3.2.1 b3.2.2.1 b3.2.2.2.1 b3.2.2.2.2.1 b3.2.2.2.2.2.1 b3.2.2.2.2.2.2.1 b3.2.2.2.2.2.2.2.1 b3.2.2.2.2.2.2.2.2.1 b3.2.2.2.2.2.2.2.2.2).bind fun b5 => if b5 = true then (laws_eqFrame.f k b2.1 b2.2.1 b2.2.2.1 b2.2.2.2.1 b2.2.2.2.2.1 b2.2.2.2.2.2.1 b2.2.2.2.2.2.2.1 b2.2.2.2.2.2.2.2 b2.1 b2.2.1 b2.2.2.1 b2.2.2.2.1 b2.2.2.2.2.1 b2.2.2.2.2.2.1 b2.2.2.2.2.2.2.1 b2.2.2.2.2.2.2.2).bind fun b6 => if b6 = true then (laws_markFrame.f k b2.1 b2.2.1 b2.2.2.1 b2.2.2.2.1 b2.2.2.2.2.1 b2.2.2.2.2.2.1 b2.2.2.2.2.2.2.1 b2.2.2.2.2.2.2.2 1).bind fun b7 => if b7.1 < 0 then none else (laws_markPartResult.f k b4.1 b4.2.1 b4.2.2.1 b4.2.2.2.1 b4.2.2.2.2.1 b4.2.2.2.2.2.1 b4.2.2.2.2.2.2.1 b4.2.2.2.2.2.2.2.1 b4.2.2.2.2.2.2.2.2.1 b4.2.2.2.2.2.2.2.2.2 1).bind fun b9 => (laws_heldPartResult.f k b4.1 b4.2.1 b4.2.2.1 b4.2.2.2.1 b4.2.2.2.2.1 b4.2.2.2.2.2.1 b4.2.2.2.2.2.2.1 b9.2.1 b9.2.2.1 b9.2.2.2 1).bind fun b10 => if b10 < 0 then none else if b10 = b9.1 then some true else none else none else none
set_option maxHeartbeats 8000000 in
set_option maxRecDepth 100000 in
theorem laws_FnExactPartOf.calls (k : Nat) (a0_0 : Int) (a0_1 : Int) (a0_2 : Int) (a0_3 : Int) (a0_4 : Int) (A0_5 : Option Addr) (c0_5 : Nat) (l0_5 : List Int) (A0_6 : Option Addr) (c0_6 : Nat) (l0_6 : List Int) (A0_7 : Option Addr) (c0_7 : Nat) (l0_7 : List (List Int)) (a1 : Int) (r : Bool) (w : World) (hr0_5 : Kd.C (Kd.int .i64) w A0_5 l0_5.length l0_5) (hc0_5 : l0_5.length ≤ c0_5) (hr0_6 : Kd.C (Kd.int .i64) w A0_6 l0_6.length l0_6) (hc0_6 : l0_6.length ≤ c0_6) (hr0_7 : Kd.C (Kd.slice 2 (Kd.int .i64)) w A0_7 l0_7.length l0_7) (hc0_7 : l0_7.length ≤ c0_7) (h : laws_FnExactPartOf.f k a0_0 a0_1 a0_2 a0_3 a0_4 l0_5 l0_6 l0_7 a1 = some r) :
    Calls Try.prog 7 #[.agg #[.int .i64 a0_0, .int .i64 a0_1, .int .i64 a0_2, .int .i64 a0_3, .int .i64 a0_4, .slice A0_5 l0_5.length c0_5, .slice A0_6 l0_6.length c0_6, .slice A0_7 l0_7.length c0_7], .int .i64 a1] w fun e w' => e = .returned (.bool r) ∧ Below w.heap.size w w' := by
  have hu33 := Try.underlying33
  have hu36 := Try.underlying36
  have hu53 := Try.underlying53
  have HR0_5 := Aside0.mk hr0_5
  have HC0_5 := Aside0.mk hc0_5
  clear hr0_5 hc0_5
  have HR0_6 := Aside0.mk hr0_6
  have HC0_6 := Aside0.mk hc0_6
  clear hr0_6 hc0_6
  have HR0_7 := Aside0.mk hr0_7
  have HC0_7 := Aside0.mk hc0_7
  clear hr0_7 hc0_7
  have HB := Aside0.mk (Below.refl w.heap.size w)
  unfold laws_FnExactPartOf.f at h
  replace h := Option.bind_eq_some_iff.mp h
  obtain ⟨s0, e_, h⟩ := h
  have Esz0 := Aside0.mk e_
  clear e_
  try dsimp only at h
  by_cases c_ : s0 < 0
  · rw [if_pos c_] at h
    obtain rfl := Option.some.inj h
    have c1_ := decide_eq_true c_
    clear c_ h
    go_enter Try.func7, Try.ntmps7
    go_wp2_with (first | ((with_reducible refine gate_dst (N := 2) rfl ?_); refine bev 2 33 #[.int .i64 a0_0, .int .i64 a0_1, .int .i64 a0_2, .int .i64 a0_3, .int .i64 a0_4, .slice A0_5 l0_5.length c0_5, .slice A0_6 l0_6.length c0_6, .slice A0_7 l0_7.length c0_7] ?_; intro gb1 hg w2 hbox hb; have q0 := Aside0.mk (below_step HB.out hb); clear HB; have HB := q0; clear q0 hb; have BKgb1 := Aside0.mk hbox; have Ch3 := Aside0.mk (Kept.refl w2 (fun k_ => ¬ k_ = gb1)); clear hbox hg; obtain ⟨ccgb1_0, ccgb1_1, ccgb1_2, ccgb1_3, ccgb1_4, ccgb1_5, ccgb1_6, ccgb1_7⟩ := lw_cells8 (blk_kept BKgb1.out Ch3.out (fun h_ => h_ rfl))) | ((with_reducible refine gate_callee (f := 19) rfl ?_); refine goesL_ (some 15) rfl rfl Try.func19 (by kernel_rfl) rfl #[.agg #[.int .i64 a0_0, .int .i64 a0_1, .int .i64 a0_2, .int .i64 a0_3, .int .i64 a0_4, .slice A0_5 l0_5.length c0_5, .slice A0_6 l0_6.length c0_6, .slice A0_7 l0_7.length c0_7], .int .i64 1048576] rfl (by (try simp only [List.map_toArray, List.map_cons, List.map_nil]); first | done | rfl) ?_; refine (laws_szFrame.calls k a0_0 a0_1 a0_2 a0_3 a0_4 A0_5 c0_5 l0_5 A0_6 c0_6 l0_6 A0_7 c0_7 l0_7 1048576 s0 _ (Kd.C_below HR0_5.out HB.out) HC0_5.out (Kd.C_below HR0_6.out HB.out) HC0_6.out (Kd.C_below HR0_7.out HB.out) HC0_7.out Esz0.out).mono ?_; rintro e w5 ⟨rfl, hb⟩; refine ⟨_, rfl, ?_⟩; have q0 := Aside0.mk (below_step HB.out hb); have q1 := Aside0.mk (Kept.below Ch3.out hb); clear HB Ch3; have HB := q0; have Ch3 := q1; clear q0 q1 hb ccgb1_0 ccgb1_1 ccgb1_2 ccgb1_3 ccgb1_4 ccgb1_5 ccgb1_6 ccgb1_7; obtain ⟨ccgb1_0, ccgb1_1, ccgb1_2, ccgb1_3, ccgb1_4, ccgb1_5, ccgb1_6, ccgb1_7⟩ := lw_cells8 (blk_kept BKgb1.out Ch3.out (fun h_ => h_ rfl))))
    go_ret
    exact ⟨by first | rfl | (simp; done) | (simp [*]; done), HB.out⟩
  rw [if_neg c_] at h
  have c11_ := decide_eq_false c_
  clear c_
  replace h := Option.bind_eq_some_iff.mp h
  obtain ⟨⟨x0_0, x0_1, x0_2, x0_3, x0_4, x0_5, x0_6, x0_7⟩, e_, h⟩ := h
  have Eto0 := Aside0.mk e_
  clear e_
  try dsimp only at h
  replace h := Option.bind_eq_some_iff.mp h
  obtain ⟨⟨y0, y1, y2, y3, y4, y5, y6, y7, y8, y9⟩, e_, h⟩ := h
  have Ey := Aside0.mk e_
  clear e_
  try dsimp only at h
  replace h := Option.bind_eq_some_iff.mp h
  obtain ⟨⟨z0, z1, z2, z3, z4, z5, z6, z7, z8, z9⟩, e_, h⟩ := h
  have Ez := Aside0.mk e_
  clear e_
  try dsimp only at h
  replace h := Option.bind_eq_some_iff.mp h
  obtain ⟨er, e_, h⟩ := h
  have Er := Aside0.mk e_
  clear e_
  try dsimp only at h
  by_cases c_ : er = true
  rotate_left
  · rw [if_neg c_] at h; cases h
  rw [if_pos c_] at h
  subst c_
  replace h := Option.bind_eq_some_iff.mp h
  obtain ⟨ep0, e_, h⟩ := h
  have Ep0 := Aside0.mk e_
  clear e_
  try dsimp only at h
  by_cases c_ : ep0 = true
  rotate_left
  · rw [if_neg c_] at h; cases h
  rw [if_pos c_] at h
  subst c_
  replace h := Option.bind_eq_some_iff.mp h
  obtain ⟨⟨k0, xm0_5, xm0_6, xm0_7⟩, e_, h⟩ := h
  have Em0 := Aside0.mk e_
  clear e_
  try dsimp only at h
  by_cases c_ : k0 < 0
  · rw [if_pos c_] at h; cases h
  rw [if_neg c_] at h
  have d0_ := decide_eq_false c_
  clear c_
  replace h := Option.bind_eq_some_iff.mp h
  obtain ⟨⟨m, zm7, zm8, zm9⟩, e_, h⟩ := h
  have Emr := Aside0.mk e_
  clear e_
  try dsimp only at h
  replace h := Option.bind_eq_some_iff.mp h
  obtain ⟨q, e_, h⟩ := h
  have Eh := Aside0.mk e_
  clear e_
  try dsimp only at h
  by_cases c_ : q < 0
  · rw [if_pos c_] at h; cases h
  rw [if_neg c_] at h
  have d1_ := decide_eq_false c_
  clear c_
  by_cases c_ : q = m
  rotate_left
  · rw [if_neg c_] at h; cases h
  rw [if_pos c_] at h
  subst c_
  obtain rfl := Option.some.inj h
  clear h
  go_enter Try.func7, Try.ntmps7
  go_wp2_with (first | ((with_reducible refine gate_dst (N := 2) rfl ?_); refine bev 2 33 #[.int .i64 a0_0, .int .i64 a0_1, .int .i64 a0_2, .int .i64 a0_3, .int .i64 a0_4, .slice A0_5 l0_5.length c0_5, .slice A0_6 l0_6.length c0_6, .slice A0_7 l0_7.length c0_7] ?_; intro gb6 hg w7 hbox hb; have q0 := Aside0.mk (below_step HB.out hb); clear HB; have HB := q0; clear q0 hb; have BKgb6 := Aside0.mk hbox; have Ch8 := Aside0.mk (Kept.refl w7 (fun k_ => ¬ k_ = gb6)); clear hbox hg; obtain ⟨ccgb6_0, ccgb6_1, ccgb6_2, ccgb6_3, ccgb6_4, ccgb6_5, ccgb6_6, ccgb6_7⟩ := lw_cells8 (blk_kept BKgb6.out Ch8.out (fun h_ => h_ rfl))) | ((with_reducible refine gate_callee (f := 19) rfl ?_); refine goesL_ (some 15) rfl rfl Try.func19 (by kernel_rfl) rfl #[.agg #[.int .i64 a0_0, .int .i64 a0_1, .int .i64 a0_2, .int .i64 a0_3, .int .i64 a0_4, .slice A0_5 l0_5.length c0_5, .slice A0_6 l0_6.length c0_6, .slice A0_7 l0_7.length c0_7], .int .i64 1048576] rfl (by (try simp only [List.map_toArray, List.map_cons, List.map_nil]); first | done | rfl) ?_; refine (laws_szFrame.calls k a0_0 a0_1 a0_2 a0_3 a0_4 A0_5 c0_5 l0_5 A0_6 c0_6 l0_6 A0_7 c0_7 l0_7 1048576 s0 _ (Kd.C_below HR0_5.out HB.out) HC0_5.out (Kd.C_below HR0_6.out HB.out) HC0_6.out (Kd.C_below HR0_7.out HB.out) HC0_7.out Esz0.out).mono ?_; rintro e w10 ⟨rfl, hb⟩; refine ⟨_, rfl, ?_⟩; have q0 := Aside0.mk (below_step HB.out hb); have q1 := Aside0.mk (Kept.below Ch8.out hb); clear HB Ch8; have HB := q0; have Ch8 := q1; clear q0 q1 hb ccgb6_0 ccgb6_1 ccgb6_2 ccgb6_3 ccgb6_4 ccgb6_5 ccgb6_6 ccgb6_7; obtain ⟨ccgb6_0, ccgb6_1, ccgb6_2, ccgb6_3, ccgb6_4, ccgb6_5, ccgb6_6, ccgb6_7⟩ := lw_cells8 (blk_kept BKgb6.out Ch8.out (fun h_ => h_ rfl))) | ((with_reducible refine gate_callee (f := 21) rfl ?_); refine goesL_ (some 19) rfl rfl Try.func21 (by kernel_rfl) rfl #[.agg #[.int .i64 a0_0, .int .i64 a0_1, .int .i64 a0_2, .int .i64 a0_3, .int .i64 a0_4, .slice A0_5 l0_5.length c0_5, .slice A0_6 l0_6.length c0_6, .slice A0_7 l0_7.length c0_7]] rfl (by (try simp only [List.map_toArray, List.map_cons, List.map_nil]); first | done | rfl) ?_; refine (laws_toFrame.calls k a0_0 a0_1 a0_2 a0_3 a0_4 A0_5 c0_5 l0_5 A0_6 c0_6 l0_6 A0_7 c0_7 l0_7 x0_0 x0_1 x0_2 x0_3 x0_4 x0_5 x0_6 x0_7 _ (Kd.C_below HR0_5.out HB.out) HC0_5.out (Kd.C_below HR0_6.out HB.out) HC0_6.out (Kd.C_below HR0_7.out HB.out) HC0_7.out Eto0.out).mono ?_; rintro e w11 ⟨v5, v6, v7, rfl, ho5, ho6, ho7, hb⟩; refine ⟨_, rfl, ?_⟩; have OCh8_Ch12 := Aside0.mk (show gb6 < w10.heap.size from Nat.lt_of_lt_of_le (blk_lt BKgb6.out) Ch8.out.1); have OBCh12 := Aside0.mk (show w.heap.size ≤ w10.heap.size from HB.out.size); obtain ⟨A13, c13, rfl⟩ := Kd.R_slice ho5; have RX13 := Aside0.mk (lw_Rcap ho5); obtain ⟨A14, c14, rfl⟩ := Kd.R_slice ho6; have RX14 := Aside0.mk (lw_Rcap ho6); obtain ⟨A15, c15, rfl⟩ := Kd.S_slice ho7; have RX15 := Aside0.mk (lw_Scap ho7); clear ho5 ho6 ho7; have q0 := Aside0.mk (below_step HB.out hb); have q1 := Aside0.mk (Kept.below Ch8.out hb); clear HB Ch8; have HB := q0; have Ch8 := q1; clear q0 q1 hb; have Ch12 := Aside0.mk (Kept.refl w11 (fun k_ => ¬ (w10.heap.size ≤ k_ ∧ k_ < w11.heap.size))); clear ccgb6_0 ccgb6_1 ccgb6_2 ccgb6_3 ccgb6_4 ccgb6_5 ccgb6_6 ccgb6_7) | ((with_reducible refine gate_callee (f := 36) rfl ?_); refine goesL_ (some 21) rfl rfl Try.func36 (by kernel_rfl) rfl #[.agg #[.int .i64 x0_0, .int .i64 x0_1, .int .i64 x0_2, .int .i64 x0_3, .int .i64 x0_4, .slice A13 x0_5.length c13, .slice A14 x0_6.length c14, .slice A15 x0_7.length c15], .int .i64 a1] rfl (by (try simp only [List.map_toArray, List.map_cons, List.map_nil]); first | done | rfl) ?_; refine (spec_PartOf.calls k x0_0 x0_1 x0_2 x0_3 x0_4 A13 c13 x0_5 A14 c14 x0_6 A15 c15 x0_7 a1 y0 y1 y2 y3 y4 y5 y6 y7 y8 y9 _ (Kd.R_reads' (lw_Rheld RX13.out Ch12.out)).2.2 (lw_Rlen (lw_Rheld RX13.out Ch12.out)) (Kd.R_reads' (lw_Rheld RX14.out Ch12.out)).2.2 (lw_Rlen (lw_Rheld RX14.out Ch12.out)) (Kd.S_reads' (lw_Sheld RX15.out Ch12.out)).2.2 (lw_Slen (lw_Sheld RX15.out Ch12.out)) Ey.out).mono ?_; rintro e w17 ⟨v7, v8, v9, rfl, ho7, ho8, ho9, hb⟩; refine ⟨_, rfl, ?_⟩; have OCh8_Ch18 := Aside0.mk (show gb6 < w11.heap.size from Nat.lt_of_lt_of_le (blk_lt BKgb6.out) Ch8.out.1); have OCh12_Ch18 := Aside0.mk (show w11.heap.size ≤ w11.heap.size from Ch12.out.1); have OBCh18 := Aside0.mk (show w.heap.size ≤ w11.heap.size from HB.out.size); obtain ⟨A19, c19, rfl⟩ := Kd.R_slice ho7; have RX19 := Aside0.mk (lw_Rcap ho7); obtain ⟨A20, c20, rfl⟩ := Kd.R_slice ho8; have RX20 := Aside0.mk (lw_Rcap ho8); obtain ⟨A21, c21, rfl⟩ := Kd.S_slice ho9; have RX21 := Aside0.mk (lw_Scap ho9); clear ho7 ho8 ho9; have q0 := Aside0.mk (below_step HB.out hb); have q1 := Aside0.mk (Kept.below Ch8.out hb); have q2 := Aside0.mk (Kept.below Ch12.out hb); clear HB Ch8 Ch12; have HB := q0; have Ch8 := q1; have Ch12 := q2; clear q0 q1 q2 hb; have Ch18 := Aside0.mk (Kept.refl w17 (fun k_ => ¬ (w11.heap.size ≤ k_ ∧ k_ < w17.heap.size))); clear Ch12) | ((with_reducible refine gate_dst (N := 6) rfl ?_); refine bev 6 53 #[.int .i64 0, .int .i64 0, .int .i64 0, .int .i64 0, .int .i64 0, .int .i64 0, .int .i64 0, .slice none 0 0, .slice none 0 0, .slice none 0 0] ?_; intro gb23 hg w24 hbox hb; have GBgb23 := Aside0.mk (show w.heap.size ≤ gb23 by rw [hg]; exact HB.out.size); have GCh8_gb23 := Aside0.mk (show w7.heap.size ≤ gb23 by rw [hg]; exact Ch8.out.1); have GCh18_gb23 := Aside0.mk (show w17.heap.size ≤ gb23 by rw [hg]; exact Ch18.out.1); have q0 := Aside0.mk (below_step HB.out hb); have q1 := Aside0.mk (Kept.below Ch8.out hb); have q2 := Aside0.mk (Kept.below Ch18.out hb); clear HB Ch8 Ch18; have HB := q0; have Ch8 := q1; have Ch18 := q2; clear q0 q1 q2 hb; have BZ := Aside0.mk hbox; obtain ⟨cz0, cz1, cz2, cz3, cz4, cz5, cz6, cz7, cz8, cz9⟩ := lw_cells10 hbox; obtain ⟨cf0, cf1, cf2, cf3, cf4, cf5, cf6, cf7, cf8, cf9⟩ := lw_frz10 hbox; clear hbox hg) | ((with_reducible refine gate_store (t := 53) (p := 6) rfl ?_); refine store_event (t := 53) (p := 6) (v := ?vo_w25) (w1 := ((((((((((w24.setCell ⟨gb23, 0, none⟩ (.int .i64 y0)).setCell ⟨gb23, 1, none⟩ (.int .i64 y1)).setCell ⟨gb23, 2, none⟩ (.int .i64 y2)).setCell ⟨gb23, 3, none⟩ (.int .i64 y3)).setCell ⟨gb23, 4, none⟩ (.int .i64 y4)).setCell ⟨gb23, 5, none⟩ (.int .i64 y5)).setCell ⟨gb23, 6, none⟩ (.int .i64 y6)).setCell ⟨gb23, 7, none⟩ (.slice A19 y7.length c19)).setCell ⟨gb23, 8, none⟩ (.slice A20 y8.length c20)).setCell ⟨gb23, 9, none⟩ (.slice A21 y9.length c21))) ?hg ?ho ?hn ?hr ?_; (case ho => rfl); (case hg => rfl); (case hn => rfl); (case hr => first | (go_simp; done) | (go_simp; rfl)); intro w25 hw; have q0 := Aside0.mk (show Below w.heap.size w w25 by rw [hw]; exact lw_putb10 HB.out GBgb23.out (.int .i64 y0) (.int .i64 y1) (.int .i64 y2) (.int .i64 y3) (.int .i64 y4) (.int .i64 y5) (.int .i64 y6) (.slice A19 y7.length c19) (.slice A20 y8.length c20) (.slice A21 y9.length c21)); have q1 := Aside0.mk (show Kept w7 w25 (fun k_ => ¬ k_ = gb6) by rw [hw]; exact lw_putk10 Ch8.out (.inr GCh8_gb23.out) (.int .i64 y0) (.int .i64 y1) (.int .i64 y2) (.int .i64 y3) (.int .i64 y4) (.int .i64 y5) (.int .i64 y6) (.slice A19 y7.length c19) (.slice A20 y8.length c20) (.slice A21 y9.length c21)); have q2 := Aside0.mk (show Kept w17 w25 (fun k_ => ¬ (w11.heap.size ≤ k_ ∧ k_ < w17.heap.size)) by rw [hw]; exact lw_putk10 Ch18.out (.inr GCh18_gb23.out) (.int .i64 y0) (.int .i64 y1) (.int .i64 y2) (.int .i64 y3) (.int .i64 y4) (.int .i64 y5) (.int .i64 y6) (.slice A19 y7.length c19) (.slice A20 y8.length c20) (.slice A21 y9.length c21)); clear HB Ch8 Ch18; have HB := q0; have Ch8 := q1; have Ch18 := q2; clear q0 q1 q2; have BKgb23 := Aside0.mk (show w25.heap[gb23]? = some (.cells #[.int .i64 y0, .int .i64 y1, .int .i64 y2, .int .i64 y3, .int .i64 y4, .int .i64 y5, .int .i64 y6, .slice A19 y7.length c19, .slice A20 y8.length c20, .slice A21 y9.length c21] 53 (0, 0)) by rw [hw]; exact lw_put10 BZ.out (.int .i64 y0) (.int .i64 y1) (.int .i64 y2) (.int .i64 y3) (.int .i64 y4) (.int .i64 y5) (.int .i64 y6) (.slice A19 y7.length c19) (.slice A20 y8.length c20) (.slice A21 y9.length c21)); clear hw BZ; have Ch26 := Aside0.mk (Kept.refl w25 (fun k_ => ¬ k_ = gb23)); clear cz0 cz1 cz2 cz3 cz4 cz5 cz6 cz7 cz8 cz9 cf0 cf1 cf2 cf3 cf4 cf5 cf6 cf7 cf8 cf9; obtain ⟨ccgb6_0, ccgb6_1, ccgb6_2, ccgb6_3, ccgb6_4, ccgb6_5, ccgb6_6, ccgb6_7⟩ := lw_cells8 (blk_kept BKgb6.out Ch8.out (fun h_ => h_ rfl))) | ((with_reducible refine gate_callee (f := 21) rfl ?_); refine goesL_ (some 23) rfl rfl Try.func21 (by kernel_rfl) rfl #[.agg #[.int .i64 a0_0, .int .i64 a0_1, .int .i64 a0_2, .int .i64 a0_3, .int .i64 a0_4, .slice A0_5 l0_5.length c0_5, .slice A0_6 l0_6.length c0_6, .slice A0_7 l0_7.length c0_7]] rfl (by (try simp only [List.map_toArray, List.map_cons, List.map_nil]); first | done | rfl) ?_; refine (laws_toFrame.calls k a0_0 a0_1 a0_2 a0_3 a0_4 A0_5 c0_5 l0_5 A0_6 c0_6 l0_6 A0_7 c0_7 l0_7 x0_0 x0_1 x0_2 x0_3 x0_4 x0_5 x0_6 x0_7 _ (Kd.C_below HR0_5.out HB.out) HC0_5.out (Kd.C_below HR0_6.out HB.out) HC0_6.out (Kd.C_below HR0_7.out HB.out) HC0_7.out Eto0.out).mono ?_; rintro e w28 ⟨v5, v6, v7, rfl, ho5, ho6, ho7, hb⟩; refine ⟨_, rfl, ?_⟩; have OCh8_Ch29 := Aside0.mk (show gb6 < w25.heap.size from Nat.lt_of_lt_of_le (blk_lt BKgb6.out) Ch8.out.1); have OCh18_Ch29 := Aside0.mk (show w17.heap.size ≤ w25.heap.size from Ch18.out.1); have OCh26_Ch29 := Aside0.mk (show gb23 < w25.heap.size from Nat.lt_of_lt_of_le (blk_lt BKgb23.out) Ch26.out.1); have OBCh29 := Aside0.mk (show w.heap.size ≤ w25.heap.size from HB.out.size); obtain ⟨A30, c30, rfl⟩ := Kd.R_slice ho5; have RX30 := Aside0.mk (lw_Rcap ho5); obtain ⟨A31, c31, rfl⟩ := Kd.R_slice ho6; have RX31 := Aside0.mk (lw_Rcap ho6); obtain ⟨A32, c32, rfl⟩ := Kd.S_slice ho7; have RX32 := Aside0.mk (lw_Scap ho7); clear ho5 ho6 ho7; have q0 := Aside0.mk (below_step HB.out hb); have q1 := Aside0.mk (Kept.below Ch8.out hb); have q2 := Aside0.mk (Kept.below Ch18.out hb); have q3 := Aside0.mk (Kept.below Ch26.out hb); clear HB Ch8 Ch18 Ch26; have HB := q0; have Ch8 := q1; have Ch18 := q2; have Ch26 := q3; clear q0 q1 q2 q3 hb; have Ch29 := Aside0.mk (Kept.refl w28 (fun k_ => ¬ (w25.heap.size ≤ k_ ∧ k_ < w28.heap.size))); clear ccgb6_0 ccgb6_1 ccgb6_2 ccgb6_3 ccgb6_4 ccgb6_5 ccgb6_6 ccgb6_7) | ((with_reducible refine gate_dst (N := 7) rfl ?_); refine bev 7 36 #[.int .i64 0, .int .i64 0, .int .i64 0, .int .i64 0, .int .i64 0, .slice none 0 0, .slice none 0 0, .slice none 0 0] ?_; intro gb34 hg w35 hbox hb; have GBgb34 := Aside0.mk (show w.heap.size ≤ gb34 by rw [hg]; exact HB.out.size); have GCh8_gb34 := Aside0.mk (show w7.heap.size ≤ gb34 by rw [hg]; exact Ch8.out.1); have GCh18_gb34 := Aside0.mk (show w17.heap.size ≤ gb34 by rw [hg]; exact Ch18.out.1); have GCh26_gb34 := Aside0.mk (show w25.heap.size ≤ gb34 by rw [hg]; exact Ch26.out.1); have GCh29_gb34 := Aside0.mk (show w28.heap.size ≤ gb34 by rw [hg]; exact Ch29.out.1); have q0 := Aside0.mk (below_step HB.out hb); have q1 := Aside0.mk (Kept.below Ch8.out hb); have q2 := Aside0.mk (Kept.below Ch18.out hb); have q3 := Aside0.mk (Kept.below Ch26.out hb); have q4 := Aside0.mk (Kept.below Ch29.out hb); clear HB Ch8 Ch18 Ch26 Ch29; have HB := q0; have Ch8 := q1; have Ch18 := q2; have Ch26 := q3; have Ch29 := q4; clear q0 q1 q2 q3 q4 hb; have BZ := Aside0.mk hbox; obtain ⟨cz0, cz1, cz2, cz3, cz4, cz5, cz6, cz7⟩ := lw_cells8 hbox; obtain ⟨cf0, cf1, cf2, cf3, cf4, cf5, cf6, cf7⟩ := lw_frz8 hbox; clear hbox hg) | ((with_reducible refine gate_store (t := 36) (p := 7) rfl ?_); refine store_event (t := 36) (p := 7) (v := ?vo_w36) (w1 := ((((((((w35.setCell ⟨gb34, 0, none⟩ (.int .i64 x0_0)).setCell ⟨gb34, 1, none⟩ (.int .i64 x0_1)).setCell ⟨gb34, 2, none⟩ (.int .i64 x0_2)).setCell ⟨gb34, 3, none⟩ (.int .i64 x0_3)).setCell ⟨gb34, 4, none⟩ (.int .i64 x0_4)).setCell ⟨gb34, 5, none⟩ (.slice A30 x0_5.length c30)).setCell ⟨gb34, 6, none⟩ (.slice A31 x0_6.length c31)).setCell ⟨gb34, 7, none⟩ (.slice A32 x0_7.length c32))) ?hg ?ho ?hn ?hr ?_; (case ho => rfl); (case hg => rfl); (case hn => rfl); (case hr => first | (go_simp; done) | (go_simp; rfl)); intro w36 hw; have q0 := Aside0.mk (show Below w.heap.size w w36 by rw [hw]; exact lw_putb8 HB.out GBgb34.out (.int .i64 x0_0) (.int .i64 x0_1) (.int .i64 x0_2) (.int .i64 x0_3) (.int .i64 x0_4) (.slice A30 x0_5.length c30) (.slice A31 x0_6.length c31) (.slice A32 x0_7.length c32)); have q1 := Aside0.mk (show Kept w7 w36 (fun k_ => ¬ k_ = gb6) by rw [hw]; exact lw_putk8 Ch8.out (.inr GCh8_gb34.out) (.int .i64 x0_0) (.int .i64 x0_1) (.int .i64 x0_2) (.int .i64 x0_3) (.int .i64 x0_4) (.slice A30 x0_5.length c30) (.slice A31 x0_6.length c31) (.slice A32 x0_7.length c32)); have q2 := Aside0.mk (show Kept w17 w36 (fun k_ => ¬ (w11.heap.size ≤ k_ ∧ k_ < w17.heap.size)) by rw [hw]; exact lw_putk8 Ch18.out (.inr GCh18_gb34.out) (.int .i64 x0_0) (.int .i64 x0_1) (.int .i64 x0_2) (.int .i64 x0_3) (.int .i64 x0_4) (.slice A30 x0_5.length c30) (.slice A31 x0_6.length c31) (.slice A32 x0_7.length c32)); have q3 := Aside0.mk (show Kept w25 w36 (fun k_ => ¬ k_ = gb23) by rw [hw]; exact lw_putk8 Ch26.out (.inr GCh26_gb34.out) (.int .i64 x0_0) (.int .i64 x0_1) (.int .i64 x0_2) (.int .i64 x0_3) (.int .i64 x0_4) (.slice A30 x0_5.length c30) (.slice A31 x0_6.length c31) (.slice A32 x0_7.length c32)); have q4 := Aside0.mk (show Kept w28 w36 (fun k_ => ¬ (w25.heap.size ≤ k_ ∧ k_ < w28.heap.size)) by rw [hw]; exact lw_putk8 Ch29.out (.inr GCh29_gb34.out) (.int .i64 x0_0) (.int .i64 x0_1) (.int .i64 x0_2) (.int .i64 x0_3) (.int .i64 x0_4) (.slice A30 x0_5.length c30) (.slice A31 x0_6.length c31) (.slice A32 x0_7.length c32)); clear HB Ch8 Ch18 Ch26 Ch29; have HB := q0; have Ch8 := q1; have Ch18 := q2; have Ch26 := q3; have Ch29 := q4; clear q0 q1 q2 q3 q4; have BKgb34 := Aside0.mk (show w36.heap[gb34]? = some (.cells #[.int .i64 x0_0, .int .i64 x0_1, .int .i64 x0_2, .int .i64 x0_3, .int .i64 x0_4, .slice A30 x0_5.length c30, .slice A31 x0_6.length c31, .slice A32 x0_7.length c32] 36 (0, 0)) by rw [hw]; exact lw_put8 BZ.out (.int .i64 x0_0) (.int .i64 x0_1) (.int .i64 x0_2) (.int .i64 x0_3) (.int .i64 x0_4) (.slice A30 x0_5.length c30) (.slice A31 x0_6.length c31) (.slice A32 x0_7.length c32)); clear hw BZ; have Ch37 := Aside0.mk (Kept.refl w36 (fun k_ => ¬ k_ = gb34)); clear cz0 cz1 cz2 cz3 cz4 cz5 cz6 cz7 cf0 cf1 cf2 cf3 cf4 cf5 cf6 cf7; obtain ⟨ccgb34_0, ccgb34_1, ccgb34_2, ccgb34_3, ccgb34_4, ccgb34_5, ccgb34_6, ccgb34_7⟩ := lw_cells8 (blk_kept BKgb34.out Ch37.out (fun h_ => h_ rfl))) | ((with_reducible refine gate_callee (f := 37) rfl ?_); refine goesL_ (some 26) rfl rfl Try.func37 (by kernel_rfl) rfl #[.agg #[.int .i64 x0_0, .int .i64 x0_1, .int .i64 x0_2, .int .i64 x0_3, .int .i64 x0_4, .slice A30 x0_5.length c30, .slice A31 x0_6.length c31, .slice A32 x0_7.length c32], .int .i64 a1] rfl (by (try simp only [List.map_toArray, List.map_cons, List.map_nil]); first | done | rfl) ?_; refine (impl_PartOf.calls k x0_0 x0_1 x0_2 x0_3 x0_4 A30 c30 x0_5 A31 c31 x0_6 A32 c32 x0_7 a1 z0 z1 z2 z3 z4 z5 z6 z7 z8 z9 _ (Kd.R_reads' (lw_Rheld RX30.out Ch29.out)).2.2 (lw_Rlen (lw_Rheld RX30.out Ch29.out)) (Kd.R_reads' (lw_Rheld RX31.out Ch29.out)).2.2 (lw_Rlen (lw_Rheld RX31.out Ch29.out)) (Kd.S_reads' (lw_Sheld RX32.out Ch29.out)).2.2 (lw_Slen (lw_Sheld RX32.out Ch29.out)) Ez.out).mono ?_; rintro e w39 ⟨v7, v8, v9, rfl, ho7, ho8, ho9, hb⟩; refine ⟨_, rfl, ?_⟩; have OCh8_Ch40 := Aside0.mk (show gb6 < w36.heap.size from Nat.lt_of_lt_of_le (blk_lt BKgb6.out) Ch8.out.1); have OCh18_Ch40 := Aside0.mk (show w17.heap.size ≤ w36.heap.size from Ch18.out.1); have OCh26_Ch40 := Aside0.mk (show gb23 < w36.heap.size from Nat.lt_of_lt_of_le (blk_lt BKgb23.out) Ch26.out.1); have OCh29_Ch40 := Aside0.mk (show w28.heap.size ≤ w36.heap.size from Ch29.out.1); have OCh37_Ch40 := Aside0.mk (show gb34 < w36.heap.size from Nat.lt_of_lt_of_le (blk_lt BKgb34.out) Ch37.out.1); have OBCh40 := Aside0.mk (show w.heap.size ≤ w36.heap.size from HB.out.size); obtain ⟨A41, c41, rfl⟩ := Kd.R_slice ho7; have RX41 := Aside0.mk (lw_Rcap ho7); obtain ⟨A42, c42, rfl⟩ := Kd.R_slice ho8; have RX42 := Aside0.mk (lw_Rcap ho8); obtain ⟨A43, c43, rfl⟩ := Kd.S_slice ho9; have RX43 := Aside0.mk (lw_Scap ho9); clear ho7 ho8 ho9; have q0 := Aside0.mk (below_step HB.out hb); have q1 := Aside0.mk (Kept.below Ch8.out hb); have q2 := Aside0.mk (Kept.below Ch18.out hb); have q3 := Aside0.mk (Kept.below Ch26.out hb); have q4 := Aside0.mk (Kept.below Ch29.out hb); have q5 := Aside0.mk (Kept.below Ch37.out hb); clear HB Ch8 Ch18 Ch26 Ch29 Ch37; have HB := q0; have Ch8 := q1; have Ch18 := q2; have Ch26 := q3; have Ch29 := q4; have Ch37 := q5; clear q0 q1 q2 q3 q4 q5 hb; have Ch40 := Aside0.mk (Kept.refl w39 (fun k_ => ¬ (w36.heap.size ≤ k_ ∧ k_ < w39.heap.size))); clear ccgb34_0 ccgb34_1 ccgb34_2 ccgb34_3 ccgb34_4 ccgb34_5 ccgb34_6 ccgb34_7) | ((with_reducible refine gate_dst (N := 8) rfl ?_); refine bev 8 53 #[.int .i64 0, .int .i64 0, .int .i64 0, .int .i64 0, .int .i64 0, .int .i64 0, .int .i64 0, .slice none 0 0, .slice none 0 0, .slice none 0 0] ?_; intro gb45 hg w46 hbox hb; have GBgb45 := Aside0.mk (show w.heap.size ≤ gb45 by rw [hg]; exact HB.out.size); have GCh8_gb45 := Aside0.mk (show w7.heap.size ≤ gb45 by rw [hg]; exact Ch8.out.1); have GCh18_gb45 := Aside0.mk (show w17.heap.size ≤ gb45 by rw [hg]; exact Ch18.out.1); have GCh26_gb45 := Aside0.mk (show w25.heap.size ≤ gb45 by rw [hg]; exact Ch26.out.1); have GCh29_gb45 := Aside0.mk (show w28.heap.size ≤ gb45 by rw [hg]; exact Ch29.out.1); have GCh37_gb45 := Aside0.mk (show w36.heap.size ≤ gb45 by rw [hg]; exact Ch37.out.1); have GCh40_gb45 := Aside0.mk (show w39.heap.size ≤ gb45 by rw [hg]; exact Ch40.out.1); have q0 := Aside0.mk (below_step HB.out hb); have q1 := Aside0.mk (Kept.below Ch8.out hb); have q2 := Aside0.mk (Kept.below Ch18.out hb); have q3 := Aside0.mk (Kept.below Ch26.out hb); have q4 := Aside0.mk (Kept.below Ch29.out hb); have q5 := Aside0.mk (Kept.below Ch37.out hb); have q6 := Aside0.mk (Kept.below Ch40.out hb); clear HB Ch8 Ch18 Ch26 Ch29 Ch37 Ch40; have HB := q0; have Ch8 := q1; have Ch18 := q2; have Ch26 := q3; have Ch29 := q4; have Ch37 := q5; have Ch40 := q6; clear q0 q1 q2 q3 q4 q5 q6 hb; have BZ := Aside0.mk hbox; obtain ⟨cz0, cz1, cz2, cz3, cz4, cz5, cz6, cz7, cz8, cz9⟩ := lw_cells10 hbox; obtain ⟨cf0, cf1, cf2, cf3, cf4, cf5, cf6, cf7, cf8, cf9⟩ := lw_frz10 hbox; clear hbox hg) | ((with_reducible refine gate_store (t := 53) (p := 8) rfl ?_); refine store_event (t := 53) (p := 8) (v := ?vo_w47) (w1 := ((((((((((w46.setCell ⟨gb45, 0, none⟩ (.int .i64 z0)).setCell ⟨gb45, 1, none⟩ (.int .i64 z1)).setCell ⟨gb45, 2, none⟩ (.int .i64 z2)).setCell ⟨gb45, 3, none⟩ (.int .i64 z3)).setCell ⟨gb45, 4, none⟩ (.int .i64 z4)).setCell ⟨gb45, 5, none⟩ (.int .i64 z5)).setCell ⟨gb45, 6, none⟩ (.int .i64 z6)).setCell ⟨gb45, 7, none⟩ (.slice A41 z7.length c41)).setCell ⟨gb45, 8, none⟩ (.slice A42 z8.length c42)).setCell ⟨gb45, 9, none⟩ (.slice A43 z9.length c43))) ?hg ?ho ?hn ?hr ?_; (case ho => rfl); (case hg => rfl); (case hn => rfl); (case hr => first | (go_simp; done) | (go_simp; rfl)); intro w47 hw; have q0 := Aside0.mk (show Below w.heap.size w w47 by rw [hw]; exact lw_putb10 HB.out GBgb45.out (.int .i64 z0) (.int .i64 z1) (.int .i64 z2) (.int .i64 z3) (.int .i64 z4) (.int .i64 z5) (.int .i64 z6) (.slice A41 z7.length c41) (.slice A42 z8.length c42) (.slice A43 z9.length c43)); have q1 := Aside0.mk (show Kept w7 w47 (fun k_ => ¬ k_ = gb6) by rw [hw]; exact lw_putk10 Ch8.out (.inr GCh8_gb45.out) (.int .i64 z0) (.int .i64 z1) (.int .i64 z2) (.int .i64 z3) (.int .i64 z4) (.int .i64 z5) (.int .i64 z6) (.slice A41 z7.length c41) (.slice A42 z8.length c42) (.slice A43 z9.length c43)); have q2 := Aside0.mk (show Kept w17 w47 (fun k_ => ¬ (w11.heap.size ≤ k_ ∧ k_ < w17.heap.size)) by rw [hw]; exact lw_putk10 Ch18.out (.inr GCh18_gb45.out) (.int .i64 z0) (.int .i64 z1) (.int .i64 z2) (.int .i64 z3) (.int .i64 z4) (.int .i64 z5) (.int .i64 z6) (.slice A41 z7.length c41) (.slice A42 z8.length c42) (.slice A43 z9.length c43)); have q3 := Aside0.mk (show Kept w25 w47 (fun k_ => ¬ k_ = gb23) by rw [hw]; exact lw_putk10 Ch26.out (.inr GCh26_gb45.out) (.int .i64 z0) (.int .i64 z1) (.int .i64 z2) (.int .i64 z3) (.int .i64 z4) (.int .i64 z5) (.int .i64 z6) (.slice A41 z7.length c41) (.slice A42 z8.length c42) (.slice A43 z9.length c43)); have q4 := Aside0.mk (show Kept w28 w47 (fun k_ => ¬ (w25.heap.size ≤ k_ ∧ k_ < w28.heap.size)) by rw [hw]; exact lw_putk10 Ch29.out (.inr GCh29_gb45.out) (.int .i64 z0) (.int .i64 z1) (.int .i64 z2) (.int .i64 z3) (.int .i64 z4) (.int .i64 z5) (.int .i64 z6) (.slice A41 z7.length c41) (.slice A42 z8.length c42) (.slice A43 z9.length c43)); have q5 := Aside0.mk (show Kept w36 w47 (fun k_ => ¬ k_ = gb34) by rw [hw]; exact lw_putk10 Ch37.out (.inr GCh37_gb45.out) (.int .i64 z0) (.int .i64 z1) (.int .i64 z2) (.int .i64 z3) (.int .i64 z4) (.int .i64 z5) (.int .i64 z6) (.slice A41 z7.length c41) (.slice A42 z8.length c42) (.slice A43 z9.length c43)); have q6 := Aside0.mk (show Kept w39 w47 (fun k_ => ¬ (w36.heap.size ≤ k_ ∧ k_ < w39.heap.size)) by rw [hw]; exact lw_putk10 Ch40.out (.inr GCh40_gb45.out) (.int .i64 z0) (.int .i64 z1) (.int .i64 z2) (.int .i64 z3) (.int .i64 z4) (.int .i64 z5) (.int .i64 z6) (.slice A41 z7.length c41) (.slice A42 z8.length c42) (.slice A43 z9.length c43)); clear HB Ch8 Ch18 Ch26 Ch29 Ch37 Ch40; have HB := q0; have Ch8 := q1; have Ch18 := q2; have Ch26 := q3; have Ch29 := q4; have Ch37 := q5; have Ch40 := q6; clear q0 q1 q2 q3 q4 q5 q6; have BKgb45 := Aside0.mk (show w47.heap[gb45]? = some (.cells #[.int .i64 z0, .int .i64 z1, .int .i64 z2, .int .i64 z3, .int .i64 z4, .int .i64 z5, .int .i64 z6, .slice A41 z7.length c41, .slice A42 z8.length c42, .slice A43 z9.length c43] 53 (0, 0)) by rw [hw]; exact lw_put10 BZ.out (.int .i64 z0) (.int .i64 z1) (.int .i64 z2) (.int .i64 z3) (.int .i64 z4) (.int .i64 z5) (.int .i64 z6) (.slice A41 z7.length c41) (.slice A42 z8.length c42) (.slice A43 z9.length c43)); clear hw BZ; have Ch48 := Aside0.mk (Kept.refl w47 (fun k_ => ¬ k_ = gb45)); clear cz0 cz1 cz2 cz3 cz4 cz5 cz6 cz7 cz8 cz9 cf0 cf1 cf2 cf3 cf4 cf5 cf6 cf7 cf8 cf9; obtain ⟨ccgb45_0, ccgb45_1, ccgb45_2, ccgb45_3, ccgb45_4, ccgb45_5, ccgb45_6, ccgb45_7, ccgb45_8, ccgb45_9⟩ := lw_cells10 (blk_kept BKgb45.out Ch48.out (fun h_ => h_ rfl)); obtain ⟨ccgb23_0, ccgb23_1, ccgb23_2, ccgb23_3, ccgb23_4, ccgb23_5, ccgb23_6, ccgb23_7, ccgb23_8, ccgb23_9⟩ := lw_cells10 (blk_kept BKgb23.out Ch26.out (fun h_ => h_ rfl))) | ((with_reducible refine gate_callee (f := 38) rfl ?_); refine goesL_ (some 29) rfl rfl Try.func38 (by kernel_rfl) rfl #[.agg #[.int .i64 z0, .int .i64 z1, .int .i64 z2, .int .i64 z3, .int .i64 z4, .int .i64 z5, .int .i64 z6, .slice A41 z7.length c41, .slice A42 z8.length c42, .slice A43 z9.length c43], .agg #[.int .i64 y0, .int .i64 y1, .int .i64 y2, .int .i64 y3, .int .i64 y4, .int .i64 y5, .int .i64 y6, .slice A19 y7.length c19, .slice A20 y8.length c20, .slice A21 y9.length c21]] rfl (by (try simp only [List.map_toArray, List.map_cons, List.map_nil]); first | done | rfl) ?_; refine (laws_eqPartResult.calls k z0 z1 z2 z3 z4 z5 z6 A41 c41 z7 A42 c42 z8 A43 c43 z9 y0 y1 y2 y3 y4 y5 y6 A19 c19 y7 A20 c20 y8 A21 c21 y9 true _ (Kd.R_reads' (lw_Rheld RX41.out Ch40.out)).2.2 (lw_Rlen (lw_Rheld RX41.out Ch40.out)) (Kd.R_reads' (lw_Rheld RX42.out Ch40.out)).2.2 (lw_Rlen (lw_Rheld RX42.out Ch40.out)) (Kd.S_reads' (lw_Sheld RX43.out Ch40.out)).2.2 (lw_Slen (lw_Sheld RX43.out Ch40.out)) (Kd.R_reads' (lw_Rheld RX19.out Ch18.out)).2.2 (lw_Rlen (lw_Rheld RX19.out Ch18.out)) (Kd.R_reads' (lw_Rheld RX20.out Ch18.out)).2.2 (lw_Rlen (lw_Rheld RX20.out Ch18.out)) (Kd.S_reads' (lw_Sheld RX21.out Ch18.out)).2.2 (lw_Slen (lw_Sheld RX21.out Ch18.out)) Er.out).mono ?_; rintro e w50 ⟨rfl, hb⟩; refine ⟨_, rfl, ?_⟩; have q0 := Aside0.mk (below_step HB.out hb); have q1 := Aside0.mk (Kept.below Ch8.out hb); have q2 := Aside0.mk (Kept.below Ch18.out hb); have q3 := Aside0.mk (Kept.below Ch26.out hb); have q4 := Aside0.mk (Kept.below Ch29.out hb); have q5 := Aside0.mk (Kept.below Ch37.out hb); have q6 := Aside0.mk (Kept.below Ch40.out hb); have q7 := Aside0.mk (Kept.below Ch48.out hb); clear HB Ch8 Ch18 Ch26 Ch29 Ch37 Ch40 Ch48; have HB := q0; have Ch8 := q1; have Ch18 := q2; have Ch26 := q3; have Ch29 := q4; have Ch37 := q5; have Ch40 := q6; have Ch48 := q7; clear q0 q1 q2 q3 q4 q5 q6 q7 hb ccgb45_0 ccgb45_1 ccgb45_2 ccgb45_3 ccgb45_4 ccgb45_5 ccgb45_6 ccgb45_7 ccgb45_8 ccgb45_9 ccgb23_0 ccgb23_1 ccgb23_2 ccgb23_3 ccgb23_4 ccgb23_5 ccgb23_6 ccgb23_7 ccgb23_8 ccgb23_9))
  have q0 := Aside0.mk (below_drew1 HB.out)
  have q1 := Aside0.mk (Kept.drew Ch8.out)
  have q2 := Aside0.mk (Kept.drew Ch18.out)
  have q3 := Aside0.mk (Kept.drew Ch26.out)
  have q4 := Aside0.mk (Kept.drew Ch29.out)
  have q5 := Aside0.mk (Kept.drew Ch37.out)
  have q6 := Aside0.mk (Kept.drew Ch40.out)
  have q7 := Aside0.mk (Kept.drew Ch48.out)
  clear HB Ch8 Ch18 Ch26 Ch29 Ch37 Ch40 Ch48
  have HB := q0
  have Ch8 := q1
  have Ch18 := q2
  have Ch26 := q3
  have Ch29 := q4
  have Ch37 := q5
  have Ch40 := q6
  have Ch48 := q7
  clear q0 q1 q2 q3 q4 q5 q6 q7
  refine start_ (n := 5) (S := fun w' => w'.cell? ⟨gb34, 0, none⟩ = some (.int .i64 x0_0) ∧ w'.cell? ⟨gb34, 1, none⟩ = some (.int .i64 x0_1) ∧ w'.cell? ⟨gb34, 2, none⟩ = some (.int .i64 x0_2) ∧ w'.cell? ⟨gb34, 3, none⟩ = some (.int .i64 x0_3) ∧ w'.cell? ⟨gb34, 4, none⟩ = some (.int .i64 x0_4) ∧ w'.cell? ⟨gb34, 5, none⟩ = some (.slice A30 x0_5.length c30) ∧ w'.cell? ⟨gb34, 6, none⟩ = some (.slice A31 x0_6.length c31) ∧ w'.cell? ⟨gb34, 7, none⟩ = some (.slice A32 x0_7.length c32) ∧ w'.cell? ⟨gb6, 0, none⟩ = some (.int .i64 a0_0) ∧ w'.cell? ⟨gb6, 1, none⟩ = some (.int .i64 a0_1) ∧ w'.cell? ⟨gb6, 2, none⟩ = some (.int .i64 a0_2) ∧ w'.cell? ⟨gb6, 3, none⟩ = some (.int .i64 a0_3) ∧ w'.cell? ⟨gb6, 4, none⟩ = some (.int .i64 a0_4) ∧ w'.cell? ⟨gb6, 5, none⟩ = some (.slice A0_5 l0_5.length c0_5) ∧ w'.cell? ⟨gb6, 6, none⟩ = some (.slice A0_6 l0_6.length c0_6) ∧ w'.cell? ⟨gb6, 7, none⟩ = some (.slice A0_7 l0_7.length c0_7)) (ds := []) #[false, false, false, false, false] (by kernel_rfl) rfl rfl ⟨(blk_cell (blk_kept BKgb34.out Ch37.out (fun h_ => h_ rfl)) 0).trans rfl, (blk_cell (blk_kept BKgb34.out Ch37.out (fun h_ => h_ rfl)) 1).trans rfl, (blk_cell (blk_kept BKgb34.out Ch37.out (fun h_ => h_ rfl)) 2).trans rfl, (blk_cell (blk_kept BKgb34.out Ch37.out (fun h_ => h_ rfl)) 3).trans rfl, (blk_cell (blk_kept BKgb34.out Ch37.out (fun h_ => h_ rfl)) 4).trans rfl, (blk_cell (blk_kept BKgb34.out Ch37.out (fun h_ => h_ rfl)) 5).trans rfl, (blk_cell (blk_kept BKgb34.out Ch37.out (fun h_ => h_ rfl)) 6).trans rfl, (blk_cell (blk_kept BKgb34.out Ch37.out (fun h_ => h_ rfl)) 7).trans rfl, (blk_cell (blk_kept BKgb6.out Ch8.out (fun h_ => h_ rfl)) 0).trans rfl, (blk_cell (blk_kept BKgb6.out Ch8.out (fun h_ => h_ rfl)) 1).trans rfl, (blk_cell (blk_kept BKgb6.out Ch8.out (fun h_ => h_ rfl)) 2).trans rfl, (blk_cell (blk_kept BKgb6.out Ch8.out (fun h_ => h_ rfl)) 3).trans rfl, (blk_cell (blk_kept BKgb6.out Ch8.out (fun h_ => h_ rfl)) 4).trans rfl, (blk_cell (blk_kept BKgb6.out Ch8.out (fun h_ => h_ rfl)) 5).trans rfl, (blk_cell (blk_kept BKgb6.out Ch8.out (fun h_ => h_ rfl)) 6).trans rfl, (blk_cell (blk_kept BKgb6.out Ch8.out (fun h_ => h_ rfl)) 7).trans rfl⟩ (fun hHeld => ?_)
  generalize w50.drew = w51 at HB Ch8 Ch18 Ch26 Ch29 Ch37 Ch40 Ch48 hHeld ⊢
  refine take_ (i := 0) (N := some 31) (v := ?_) (a' := ?_) #[true, false, false, false, false] rfl rfl (by kernel_rfl) (fun _ _ _ h => h) (Or.inl ⟨by rfl, ?_⟩) hHeld ?_ ?_
  rotate_left
  · rintro w' ⟨s0, s1, s2, s3, s4, s5, s6, s7, s8, s9, s10, s11, s12, s13, s14, s15⟩
    go_simp
    with_reducible rfl
  rotate_left
  · simp only [Act.put, List.setIfInBounds_toArray, List.set_cons_zero, List.set_cons_succ, i64_w, i32_w]
    rfl
  refine take_ (i := 1) (N := some 32) (v := ?_) (a' := ?_) #[true, true, false, false, false] rfl rfl (by kernel_rfl) (fun _ _ _ h => h) (Or.inl ⟨by rfl, ?_⟩) hHeld ?_ ?_
  rotate_left
  · rintro w' ⟨s0, s1, s2, s3, s4, s5, s6, s7, s8, s9, s10, s11, s12, s13, s14, s15⟩
    go_simp
    with_reducible rfl
  rotate_left
  · simp only [Act.put, List.setIfInBounds_toArray, List.set_cons_zero, List.set_cons_succ, i64_w, i32_w]
    rfl
  refine one_ (i := 2) (N := some 33) #[true, true, true, false, false] rfl rfl (by kernel_rfl) (by decide) (fun K hK => ?_)
  refine goes_ Try.func21 (by kernel_rfl) rfl #[.agg #[.int .i64 a0_0, .int .i64 a0_1, .int .i64 a0_2, .int .i64 a0_3, .int .i64 a0_4, .slice A0_5 l0_5.length c0_5, .slice A0_6 l0_6.length c0_6, .slice A0_7 l0_7.length c0_7]] (by rfl) rfl rfl (by (try simp only [List.map_toArray, List.map_cons, List.map_nil]); first | done | rfl) ?_
  refine (laws_toFrame.calls k a0_0 a0_1 a0_2 a0_3 a0_4 A0_5 c0_5 l0_5 A0_6 c0_6 l0_6 A0_7 c0_7 l0_7 x0_0 x0_1 x0_2 x0_3 x0_4 x0_5 x0_6 x0_7 _ (Kd.C_below HR0_5.out HB.out) HC0_5.out (Kd.C_below HR0_6.out HB.out) HC0_6.out (Kd.C_below HR0_7.out HB.out) HC0_7.out Eto0.out).mono ?_
  rintro e w52 ⟨v5, v6, v7, rfl, ho5, ho6, ho7, hb⟩
  refine ⟨_, rfl, ?_⟩
  have OCh8_Ch53 := Aside0.mk (show gb6 < w51.heap.size from Nat.lt_of_lt_of_le (blk_lt BKgb6.out) Ch8.out.1)
  have OCh18_Ch53 := Aside0.mk (show w17.heap.size ≤ w51.heap.size from Ch18.out.1)
  have OCh26_Ch53 := Aside0.mk (show gb23 < w51.heap.size from Nat.lt_of_lt_of_le (blk_lt BKgb23.out) Ch26.out.1)
  have OCh29_Ch53 := Aside0.mk (show w28.heap.size ≤ w51.heap.size from Ch29.out.1)
  have OCh37_Ch53 := Aside0.mk (show gb34 < w51.heap.size from Nat.lt_of_lt_of_le (blk_lt BKgb34.out) Ch37.out.1)
  have OCh40_Ch53 := Aside0.mk (show w39.heap.size ≤ w51.heap.size from Ch40.out.1)
  have OCh48_Ch53 := Aside0.mk (show gb45 < w51.heap.size from Nat.lt_of_lt_of_le (blk_lt BKgb45.out) Ch48.out.1)
  have OBCh53 := Aside0.mk (show w.heap.size ≤ w51.heap.size from HB.out.size)
  obtain ⟨A54, c54, rfl⟩ := Kd.R_slice ho5
  have RX54 := Aside0.mk (lw_Rcap ho5)
  obtain ⟨A55, c55, rfl⟩ := Kd.R_slice ho6
  have RX55 := Aside0.mk (lw_Rcap ho6)
  obtain ⟨A56, c56, rfl⟩ := Kd.S_slice ho7
  have RX56 := Aside0.mk (lw_Scap ho7)
  clear ho5 ho6 ho7
  have q0 := Aside0.mk (below_step HB.out hb)
  have q1 := Aside0.mk (Kept.below Ch8.out hb)
  have q2 := Aside0.mk (Kept.below Ch18.out hb)
  have q3 := Aside0.mk (Kept.below Ch26.out hb)
  have q4 := Aside0.mk (Kept.below Ch29.out hb)
  have q5 := Aside0.mk (Kept.below Ch37.out hb)
  have q6 := Aside0.mk (Kept.below Ch40.out hb)
  have q7 := Aside0.mk (Kept.below Ch48.out hb)
  clear HB Ch8 Ch18 Ch26 Ch29 Ch37 Ch40 Ch48
  have HB := q0
  have Ch8 := q1
  have Ch18 := q2
  have Ch26 := q3
  have Ch29 := q4
  have Ch37 := q5
  have Ch40 := q6
  have Ch48 := q7
  clear q0 q1 q2 q3 q4 q5 q6 q7 hb
  have Ch53 := Aside0.mk (Kept.refl w52 (fun k_ => ¬ (w51.heap.size ≤ k_ ∧ k_ < w52.heap.size)))
  refine hK.out _ _ ⟨(blk_cell (blk_kept BKgb34.out Ch37.out (fun h_ => h_ rfl)) 0).trans rfl, (blk_cell (blk_kept BKgb34.out Ch37.out (fun h_ => h_ rfl)) 1).trans rfl, (blk_cell (blk_kept BKgb34.out Ch37.out (fun h_ => h_ rfl)) 2).trans rfl, (blk_cell (blk_kept BKgb34.out Ch37.out (fun h_ => h_ rfl)) 3).trans rfl, (blk_cell (blk_kept BKgb34.out Ch37.out (fun h_ => h_ rfl)) 4).trans rfl, (blk_cell (blk_kept BKgb34.out Ch37.out (fun h_ => h_ rfl)) 5).trans rfl, (blk_cell (blk_kept BKgb34.out Ch37.out (fun h_ => h_ rfl)) 6).trans rfl, (blk_cell (blk_kept BKgb34.out Ch37.out (fun h_ => h_ rfl)) 7).trans rfl, (blk_cell (blk_kept BKgb6.out Ch8.out (fun h_ => h_ rfl)) 0).trans rfl, (blk_cell (blk_kept BKgb6.out Ch8.out (fun h_ => h_ rfl)) 1).trans rfl, (blk_cell (blk_kept BKgb6.out Ch8.out (fun h_ => h_ rfl)) 2).trans rfl, (blk_cell (blk_kept BKgb6.out Ch8.out (fun h_ => h_ rfl)) 3).trans rfl, (blk_cell (blk_kept BKgb6.out Ch8.out (fun h_ => h_ rfl)) 4).trans rfl, (blk_cell (blk_kept BKgb6.out Ch8.out (fun h_ => h_ rfl)) 5).trans rfl, (blk_cell (blk_kept BKgb6.out Ch8.out (fun h_ => h_ rfl)) 6).trans rfl, (blk_cell (blk_kept BKgb6.out Ch8.out (fun h_ => h_ rfl)) 7).trans rfl⟩ (fun hHeld => ?_)
  clear hK K
  refine norm_ (a' := ?_) ?_ ?_
  rotate_left
  · show Act.put _ (some 33) _ = _
    simp only [Act.put, List.setIfInBounds_toArray, List.set_cons_zero, List.set_cons_succ, i64_w, i32_w]
    rfl
  refine one_ (i := 3) (N := some 34) #[true, true, true, true, false] rfl rfl (by kernel_rfl) (by decide) (fun K hK => ?_)
  refine goes_ Try.func24 (by kernel_rfl) rfl #[.agg #[.int .i64 x0_0, .int .i64 x0_1, .int .i64 x0_2, .int .i64 x0_3, .int .i64 x0_4, .slice A30 x0_5.length c30, .slice A31 x0_6.length c31, .slice A32 x0_7.length c32], .agg #[.int .i64 x0_0, .int .i64 x0_1, .int .i64 x0_2, .int .i64 x0_3, .int .i64 x0_4, .slice A54 x0_5.length c54, .slice A55 x0_6.length c55, .slice A56 x0_7.length c56]] (by rfl) rfl rfl (by (try simp only [List.map_toArray, List.map_cons, List.map_nil]); first | done | rfl) ?_
  refine (laws_eqFrame.calls k x0_0 x0_1 x0_2 x0_3 x0_4 A30 c30 x0_5 A31 c31 x0_6 A32 c32 x0_7 x0_0 x0_1 x0_2 x0_3 x0_4 A54 c54 x0_5 A55 c55 x0_6 A56 c56 x0_7 true _ (Kd.R_reads' (lw_Rheld RX30.out Ch29.out)).2.2 (lw_Rlen (lw_Rheld RX30.out Ch29.out)) (Kd.R_reads' (lw_Rheld RX31.out Ch29.out)).2.2 (lw_Rlen (lw_Rheld RX31.out Ch29.out)) (Kd.S_reads' (lw_Sheld RX32.out Ch29.out)).2.2 (lw_Slen (lw_Sheld RX32.out Ch29.out)) (Kd.R_reads' (lw_Rheld RX54.out Ch53.out)).2.2 (lw_Rlen (lw_Rheld RX54.out Ch53.out)) (Kd.R_reads' (lw_Rheld RX55.out Ch53.out)).2.2 (lw_Rlen (lw_Rheld RX55.out Ch53.out)) (Kd.S_reads' (lw_Sheld RX56.out Ch53.out)).2.2 (lw_Slen (lw_Sheld RX56.out Ch53.out)) Ep0.out).mono ?_
  rintro e w58 ⟨rfl, hb⟩
  refine ⟨_, rfl, ?_⟩
  have q0 := Aside0.mk (below_step HB.out hb)
  have q1 := Aside0.mk (Kept.below Ch8.out hb)
  have q2 := Aside0.mk (Kept.below Ch18.out hb)
  have q3 := Aside0.mk (Kept.below Ch26.out hb)
  have q4 := Aside0.mk (Kept.below Ch29.out hb)
  have q5 := Aside0.mk (Kept.below Ch37.out hb)
  have q6 := Aside0.mk (Kept.below Ch40.out hb)
  have q7 := Aside0.mk (Kept.below Ch48.out hb)
  have q8 := Aside0.mk (Kept.below Ch53.out hb)
  clear HB Ch8 Ch18 Ch26 Ch29 Ch37 Ch40 Ch48 Ch53
  have HB := q0
  have Ch8 := q1
  have Ch18 := q2
  have Ch26 := q3
  have Ch29 := q4
  have Ch37 := q5
  have Ch40 := q6
  have Ch48 := q7
  have Ch53 := q8
  clear q0 q1 q2 q3 q4 q5 q6 q7 q8 hb
  refine hK.out _ _ ⟨(blk_cell (blk_kept BKgb34.out Ch37.out (fun h_ => h_ rfl)) 0).trans rfl, (blk_cell (blk_kept BKgb34.out Ch37.out (fun h_ => h_ rfl)) 1).trans rfl, (blk_cell (blk_kept BKgb34.out Ch37.out (fun h_ => h_ rfl)) 2).trans rfl, (blk_cell (blk_kept BKgb34.out Ch37.out (fun h_ => h_ rfl)) 3).trans rfl, (blk_cell (blk_kept BKgb34.out Ch37.out (fun h_ => h_ rfl)) 4).trans rfl, (blk_cell (blk_kept BKgb34.out Ch37.out (fun h_ => h_ rfl)) 5).trans rfl, (blk_cell (blk_kept BKgb34.out Ch37.out (fun h_ => h_ rfl)) 6).trans rfl, (blk_cell (blk_kept BKgb34.out Ch37.out (fun h_ => h_ rfl)) 7).trans rfl, (blk_cell (blk_kept BKgb6.out Ch8.out (fun h_ => h_ rfl)) 0).trans rfl, (blk_cell (blk_kept BKgb6.out Ch8.out (fun h_ => h_ rfl)) 1).trans rfl, (blk_cell (blk_kept BKgb6.out Ch8.out (fun h_ => h_ rfl)) 2).trans rfl, (blk_cell (blk_kept BKgb6.out Ch8.out (fun h_ => h_ rfl)) 3).trans rfl, (blk_cell (blk_kept BKgb6.out Ch8.out (fun h_ => h_ rfl)) 4).trans rfl, (blk_cell (blk_kept BKgb6.out Ch8.out (fun h_ => h_ rfl)) 5).trans rfl, (blk_cell (blk_kept BKgb6.out Ch8.out (fun h_ => h_ rfl)) 6).trans rfl, (blk_cell (blk_kept BKgb6.out Ch8.out (fun h_ => h_ rfl)) 7).trans rfl⟩ (fun hHeld => ?_)
  clear hK K
  refine norm_ (a' := ?_) ?_ ?_
  rotate_left
  · show Act.put _ (some 34) _ = _
    simp only [Act.put, List.setIfInBounds_toArray, List.set_cons_zero, List.set_cons_succ, i64_w, i32_w]
    rfl
  refine pure_ (i := 4) (N := some 35) (v := ?_) (a' := ?_) #[true, true, true, true, true] rfl rfl (by kernel_rfl) (fun _ _ _ h => h) (Or.inl ⟨by rfl, ?_⟩) ?_ ?_
  rotate_left
  · intro w'
    go_simp
    with_reducible rfl
  rotate_left
  · simp only [Act.put, List.setIfInBounds_toArray, List.set_cons_zero, List.set_cons_succ, i64_w, i32_w]
    rfl
  refine done_ (by kernel_rfl) ?_
  clear hHeld
  obtain ⟨ccgb34_0, ccgb34_1, ccgb34_2, ccgb34_3, ccgb34_4, ccgb34_5, ccgb34_6, ccgb34_7⟩ := lw_cells8 (blk_kept BKgb34.out Ch37.out (fun h_ => h_ rfl))
  go_wp2_with (first | ((with_reducible refine gate_callee (f := 25) rfl ?_); refine goesL_ (some 38) rfl rfl Try.func25 (by kernel_rfl) rfl #[.agg #[.int .i64 x0_0, .int .i64 x0_1, .int .i64 x0_2, .int .i64 x0_3, .int .i64 x0_4, .slice A30 x0_5.length c30, .slice A31 x0_6.length c31, .slice A32 x0_7.length c32], .int .i64 1] rfl (by (try simp only [List.map_toArray, List.map_cons, List.map_nil]); first | done | rfl) ?_; refine (laws_markFrame.calls k _ _ _ _ _ _ x0_0 x0_1 x0_2 x0_3 x0_4 x0_5 x0_6 x0_7 1 k0 xm0_5 xm0_6 xm0_7 w _ HB.out (Kd.R_lower (Kd.R_tight rfl (lw_Rheld RX30.out Ch29.out)) OBCh29.out) (Kd.R_lower (Kd.R_tight rfl (lw_Rheld RX31.out Ch29.out)) OBCh29.out) (Kd.S_lower (lw_Sheld RX32.out Ch29.out) OBCh29.out) (fun k_ hi hj => (RX30.out.1 k_ hi.symm).1 hj) (fun k_ hi hs => hs.1.1 hi) (fun k_ hi hs => hs.1.2 hi) Em0.out).mono ?_; rintro e w59 ⟨rfl, hy0, hy1, hy2, hb, hkp⟩; refine ⟨_, rfl, ?_⟩; have hkr := Kept.mono hkp (S' := fun k_ => w25.heap.size ≤ k_ ∧ k_ < w28.heap.size) (fun k_ hs => Or.elim hs (fun h1_ => (RX30.out.1 k_ h1_.symm).2) (fun h2_ => Or.elim h2_ (fun h3_ => (RX31.out.1 k_ h3_.symm).2) (fun h4_ => h4_.2))); have q0 := Aside0.mk hb; have q1 := Aside0.mk (Kept.then_ Ch8.out hkr (fun k_ hk_ => .inl (fun hc_ => by have h_ := OCh8_Ch29.out; omega))); have q2 := Aside0.mk (Kept.then_ Ch18.out hkr (fun k_ hk_ => .inl (fun hc_ => by have h_ := OCh18_Ch29.out; omega))); have q3 := Aside0.mk (Kept.then_ Ch26.out hkr (fun k_ hk_ => .inl (fun hc_ => by have h_ := OCh26_Ch29.out; omega))); have q4 := Aside0.mk (Kept.then_ Ch37.out hkr (fun k_ hk_ => .inl (fun hc_ => by have h_ := GCh29_gb34.out; omega))); have q5 := Aside0.mk (Kept.then_ Ch40.out hkr (fun k_ hk_ => .inl (fun hc_ => by have h_ := OCh29_Ch40.out; omega))); have q6 := Aside0.mk (Kept.then_ Ch48.out hkr (fun k_ hk_ => .inl (fun hc_ => by have h_ := GCh29_gb45.out; omega))); clear HB Ch8 Ch18 Ch26 Ch37 Ch40 Ch48; have HB := q0; have Ch8 := q1; have Ch18 := q2; have Ch26 := q3; have Ch37 := q4; have Ch40 := q5; have Ch48 := q6; clear q0 q1 q2 q3 q4 q5 q6 Ch29 hb hkp hkr hy0 hy1 hy2 ccgb34_0 ccgb34_1 ccgb34_2 ccgb34_3 ccgb34_4 ccgb34_5 ccgb34_6 ccgb34_7; obtain ⟨ccgb45_0, ccgb45_1, ccgb45_2, ccgb45_3, ccgb45_4, ccgb45_5, ccgb45_6, ccgb45_7, ccgb45_8, ccgb45_9⟩ := lw_cells10 (blk_kept BKgb45.out Ch48.out (fun h_ => h_ rfl)); obtain ⟨ccgb23_0, ccgb23_1, ccgb23_2, ccgb23_3, ccgb23_4, ccgb23_5, ccgb23_6, ccgb23_7, ccgb23_8, ccgb23_9⟩ := lw_cells10 (blk_kept BKgb23.out Ch26.out (fun h_ => h_ rfl))) | (go_at_call 38; refine (laws_eqPartResult.calls k z0 z1 z2 z3 z4 z5 z6 A41 c41 z7 A42 c42 z8 A43 c43 z9 y0 y1 y2 y3 y4 y5 y6 A19 c19 y7 A20 c20 y8 A21 c21 y9 true _ (Kd.R_reads' (lw_Rheld RX41.out Ch40.out)).2.2 (lw_Rlen (lw_Rheld RX41.out Ch40.out)) (Kd.R_reads' (lw_Rheld RX42.out Ch40.out)).2.2 (lw_Rlen (lw_Rheld RX42.out Ch40.out)) (Kd.S_reads' (lw_Sheld RX43.out Ch40.out)).2.2 (lw_Slen (lw_Sheld RX43.out Ch40.out)) (Kd.R_reads' (lw_Rheld RX19.out Ch18.out)).2.2 (lw_Rlen (lw_Rheld RX19.out Ch18.out)) (Kd.R_reads' (lw_Rheld RX20.out Ch18.out)).2.2 (lw_Rlen (lw_Rheld RX20.out Ch18.out)) (Kd.S_reads' (lw_Sheld RX21.out Ch18.out)).2.2 (lw_Slen (lw_Sheld RX21.out Ch18.out)) Er.out).mono ?_; rintro e w60 ⟨rfl, hb⟩; have q0 := Aside0.mk (below_step HB.out hb); have q1 := Aside0.mk (Kept.below Ch8.out hb); have q2 := Aside0.mk (Kept.below Ch18.out hb); have q3 := Aside0.mk (Kept.below Ch26.out hb); have q4 := Aside0.mk (Kept.below Ch37.out hb); have q5 := Aside0.mk (Kept.below Ch40.out hb); have q6 := Aside0.mk (Kept.below Ch48.out hb); clear HB Ch8 Ch18 Ch26 Ch37 Ch40 Ch48; have HB := q0; have Ch8 := q1; have Ch18 := q2; have Ch26 := q3; have Ch37 := q4; have Ch40 := q5; have Ch48 := q6; clear q0 q1 q2 q3 q4 q5 q6 hb ccgb45_0 ccgb45_1 ccgb45_2 ccgb45_3 ccgb45_4 ccgb45_5 ccgb45_6 ccgb45_7 ccgb45_8 ccgb45_9 ccgb23_0 ccgb23_1 ccgb23_2 ccgb23_3 ccgb23_4 ccgb23_5 ccgb23_6 ccgb23_7 ccgb23_8 ccgb23_9; obtain ⟨ccgb45_0, ccgb45_1, ccgb45_2, ccgb45_3, ccgb45_4, ccgb45_5, ccgb45_6, ccgb45_7, ccgb45_8, ccgb45_9⟩ := lw_cells10 (blk_kept BKgb45.out Ch48.out (fun h_ => h_ rfl))) | ((with_reducible refine gate_callee (f := 39) rfl ?_); refine goesL_ (some 49) rfl rfl Try.func39 (by kernel_rfl) rfl #[.agg #[.int .i64 z0, .int .i64 z1, .int .i64 z2, .int .i64 z3, .int .i64 z4, .int .i64 z5, .int .i64 z6, .slice A41 z7.length c41, .slice A42 z8.length c42, .slice A43 z9.length c43], .int .i64 1] rfl (by (try simp only [List.map_toArray, List.map_cons, List.map_nil]); first | done | rfl) ?_; refine (laws_markPartResult.calls k _ _ _ _ _ _ z0 z1 z2 z3 z4 z5 z6 z7 z8 z9 1 q zm7 zm8 zm9 w _ HB.out (Kd.R_lower (Kd.R_tight rfl (lw_Rheld RX41.out Ch40.out)) OBCh40.out) (Kd.R_lower (Kd.R_tight rfl (lw_Rheld RX42.out Ch40.out)) OBCh40.out) (Kd.S_lower (lw_Sheld RX43.out Ch40.out) OBCh40.out) (fun k_ hi hj => (RX41.out.1 k_ hi.symm).1 hj) (fun k_ hi hs => hs.1.1 hi) (fun k_ hi hs => hs.1.2 hi) Emr.out).mono ?_; rintro e w61 ⟨rfl, hy0, hy1, hy2, hb, hkp⟩; refine ⟨_, rfl, ?_⟩; have hkr := Kept.mono hkp (S' := fun k_ => w36.heap.size ≤ k_ ∧ k_ < w39.heap.size) (fun k_ hs => Or.elim hs (fun h1_ => (RX41.out.1 k_ h1_.symm).2) (fun h2_ => Or.elim h2_ (fun h3_ => (RX42.out.1 k_ h3_.symm).2) (fun h4_ => h4_.2))); have q0 := Aside0.mk hb; have q1 := Aside0.mk (Kept.then_ Ch8.out hkr (fun k_ hk_ => .inl (fun hc_ => by have h_ := OCh8_Ch40.out; omega))); have q2 := Aside0.mk (Kept.then_ Ch18.out hkr (fun k_ hk_ => .inl (fun hc_ => by have h_ := OCh18_Ch40.out; omega))); have q3 := Aside0.mk (Kept.then_ Ch26.out hkr (fun k_ hk_ => .inl (fun hc_ => by have h_ := OCh26_Ch40.out; omega))); have q4 := Aside0.mk (Kept.then_ Ch37.out hkr (fun k_ hk_ => .inl (fun hc_ => by have h_ := OCh37_Ch40.out; omega))); have q5 := Aside0.mk (Kept.then_ Ch48.out hkr (fun k_ hk_ => .inl (fun hc_ => by have h_ := GCh40_gb45.out; omega))); clear HB Ch8 Ch18 Ch26 Ch37 Ch48; have HB := q0; have Ch8 := q1; have Ch18 := q2; have Ch26 := q3; have Ch37 := q4; have Ch48 := q5; clear q0 q1 q2 q3 q4 q5 Ch40 hb hkp hkr; have RX63 := Aside0.mk (lw_Rcap hy0); have RX64 := Aside0.mk (lw_Rcap hy1); have RX65 := Aside0.mk (lw_Scap hy2); have Ch62 := Aside0.mk (Kept.refl w61 (fun k_ => ¬ (w.heap.size ≤ k_ ∧ k_ < w61.heap.size))); have HL0 := (Kd.R_reads' hy0).1; have HL1 := (Kd.R_reads' hy1).1; have HL2 := (Kd.S_reads' hy2).1; clear hy0 hy1 hy2; have BKgb45' := Aside0.mk (show w47.heap[gb45]? = some (.cells #[.int .i64 z0, .int .i64 z1, .int .i64 z2, .int .i64 z3, .int .i64 z4, .int .i64 z5, .int .i64 z6, .slice A41 zm7.length c41, .slice A42 zm8.length c42, .slice A43 zm9.length c43] 53 (0, 0)) by have h_ := BKgb45.out; rw [HL0] at h_; rw [HL1] at h_; rw [HL2] at h_; exact h_); clear BKgb45; have BKgb45 := BKgb45'; clear BKgb45' HL0 HL1 HL2 ccgb45_0 ccgb45_1 ccgb45_2 ccgb45_3 ccgb45_4 ccgb45_5 ccgb45_6 ccgb45_7 ccgb45_8 ccgb45_9; obtain ⟨ccgb45_0, ccgb45_1, ccgb45_2, ccgb45_3, ccgb45_4, ccgb45_5, ccgb45_6, ccgb45_7, ccgb45_8, ccgb45_9⟩ := lw_cells10 (blk_kept BKgb45.out Ch48.out (fun h_ => h_ rfl))) | ((with_reducible refine gate_callee (f := 40) rfl ?_); refine goesL_ (some 52) rfl rfl Try.func40 (by kernel_rfl) rfl #[.agg #[.int .i64 z0, .int .i64 z1, .int .i64 z2, .int .i64 z3, .int .i64 z4, .int .i64 z5, .int .i64 z6, .slice A41 zm7.length c41, .slice A42 zm8.length c42, .slice A43 zm9.length c43], .int .i64 1] rfl (by (try simp only [List.map_toArray, List.map_cons, List.map_nil]); first | done | rfl) ?_; refine (laws_heldPartResult.calls k z0 z1 z2 z3 z4 z5 z6 A41 c41 zm7 A42 c42 zm8 A43 c43 zm9 1 q _ (Kd.R_reads' (lw_Rheld RX63.out Ch62.out)).2.2 (lw_Rlen (lw_Rheld RX63.out Ch62.out)) (Kd.R_reads' (lw_Rheld RX64.out Ch62.out)).2.2 (lw_Rlen (lw_Rheld RX64.out Ch62.out)) (Kd.S_reads' (lw_Sheld RX65.out Ch62.out)).2.2 (lw_Slen (lw_Sheld RX65.out Ch62.out)) Eh.out).mono ?_; rintro e w67 ⟨rfl, hb⟩; refine ⟨_, rfl, ?_⟩; have q0 := Aside0.mk (below_step HB.out hb); have q1 := Aside0.mk (Kept.below Ch8.out hb); have q2 := Aside0.mk (Kept.below Ch18.out hb); have q3 := Aside0.mk (Kept.below Ch26.out hb); have q4 := Aside0.mk (Kept.below Ch37.out hb); have q5 := Aside0.mk (Kept.below Ch48.out hb); have q6 := Aside0.mk (Kept.below Ch62.out hb); clear HB Ch8 Ch18 Ch26 Ch37 Ch48 Ch62; have HB := q0; have Ch8 := q1; have Ch18 := q2; have Ch26 := q3; have Ch37 := q4; have Ch48 := q5; have Ch62 := q6; clear q0 q1 q2 q3 q4 q5 q6 hb ccgb45_0 ccgb45_1 ccgb45_2 ccgb45_3 ccgb45_4 ccgb45_5 ccgb45_6 ccgb45_7 ccgb45_8 ccgb45_9; obtain ⟨ccgb6_0, ccgb6_1, ccgb6_2, ccgb6_3, ccgb6_4, ccgb6_5, ccgb6_6, ccgb6_7⟩ := lw_cells8 (blk_kept BKgb6.out Ch8.out (fun h_ => h_ rfl))) | ((with_reducible refine gate_callee (f := 21) rfl ?_); refine goesL_ (some 59) rfl rfl Try.func21 (by kernel_rfl) rfl #[.agg #[.int .i64 a0_0, .int .i64 a0_1, .int .i64 a0_2, .int .i64 a0_3, .int .i64 a0_4, .slice A0_5 l0_5.length c0_5, .slice A0_6 l0_6.length c0_6, .slice A0_7 l0_7.length c0_7]] rfl (by (try simp only [List.map_toArray, List.map_cons, List.map_nil]); first | done | rfl) ?_; refine (laws_toFrame.calls k a0_0 a0_1 a0_2 a0_3 a0_4 A0_5 c0_5 l0_5 A0_6 c0_6 l0_6 A0_7 c0_7 l0_7 x0_0 x0_1 x0_2 x0_3 x0_4 x0_5 x0_6 x0_7 _ (Kd.C_below HR0_5.out HB.out) HC0_5.out (Kd.C_below HR0_6.out HB.out) HC0_6.out (Kd.C_below HR0_7.out HB.out) HC0_7.out Eto0.out).mono ?_; rintro e w68 ⟨v5, v6, v7, rfl, ho5, ho6, ho7, hb⟩; refine ⟨_, rfl, ?_⟩; have OCh8_Ch69 := Aside0.mk (show gb6 < w67.heap.size from Nat.lt_of_lt_of_le (blk_lt BKgb6.out) Ch8.out.1); have OCh18_Ch69 := Aside0.mk (show w17.heap.size ≤ w67.heap.size from Ch18.out.1); have OCh26_Ch69 := Aside0.mk (show gb23 < w67.heap.size from Nat.lt_of_lt_of_le (blk_lt BKgb23.out) Ch26.out.1); have OCh37_Ch69 := Aside0.mk (show gb34 < w67.heap.size from Nat.lt_of_lt_of_le (blk_lt BKgb34.out) Ch37.out.1); have OCh48_Ch69 := Aside0.mk (show gb45 < w67.heap.size from Nat.lt_of_lt_of_le (blk_lt BKgb45.out) Ch48.out.1); have OCh62_Ch69 := Aside0.mk (show w61.heap.size ≤ w67.heap.size from Ch62.out.1); have OBCh69 := Aside0.mk (show w.heap.size ≤ w67.heap.size from HB.out.size); obtain ⟨A70, c70, rfl⟩ := Kd.R_slice ho5; have RX70 := Aside0.mk (lw_Rcap ho5); obtain ⟨A71, c71, rfl⟩ := Kd.R_slice ho6; have RX71 := Aside0.mk (lw_Rcap ho6); obtain ⟨A72, c72, rfl⟩ := Kd.S_slice ho7; have RX72 := Aside0.mk (lw_Scap ho7); clear ho5 ho6 ho7; have q0 := Aside0.mk (below_step HB.out hb); have q1 := Aside0.mk (Kept.below Ch8.out hb); have q2 := Aside0.mk (Kept.below Ch18.out hb); have q3 := Aside0.mk (Kept.below Ch26.out hb); have q4 := Aside0.mk (Kept.below Ch37.out hb); have q5 := Aside0.mk (Kept.below Ch48.out hb); have q6 := Aside0.mk (Kept.below Ch62.out hb); clear HB Ch8 Ch18 Ch26 Ch37 Ch48 Ch62; have HB := q0; have Ch8 := q1; have Ch18 := q2; have Ch26 := q3; have Ch37 := q4; have Ch48 := q5; have Ch62 := q6; clear q0 q1 q2 q3 q4 q5 q6 hb; have Ch69 := Aside0.mk (Kept.refl w68 (fun k_ => ¬ (w67.heap.size ≤ k_ ∧ k_ < w68.heap.size))); clear ccgb6_0 ccgb6_1 ccgb6_2 ccgb6_3 ccgb6_4 ccgb6_5 ccgb6_6 ccgb6_7) | ((with_reducible refine gate_callee (f := 37) rfl ?_); refine goesL_ (some 61) rfl rfl Try.func37 (by kernel_rfl) rfl #[.agg #[.int .i64 x0_0, .int .i64 x0_1, .int .i64 x0_2, .int .i64 x0_3, .int .i64 x0_4, .slice A70 x0_5.length c70, .slice A71 x0_6.length c71, .slice A72 x0_7.length c72], .int .i64 a1] rfl (by (try simp only [List.map_toArray, List.map_cons, List.map_nil]); first | done | rfl) ?_; refine (impl_PartOf.calls k x0_0 x0_1 x0_2 x0_3 x0_4 A70 c70 x0_5 A71 c71 x0_6 A72 c72 x0_7 a1 z0 z1 z2 z3 z4 z5 z6 z7 z8 z9 _ (Kd.R_reads' (lw_Rheld RX70.out Ch69.out)).2.2 (lw_Rlen (lw_Rheld RX70.out Ch69.out)) (Kd.R_reads' (lw_Rheld RX71.out Ch69.out)).2.2 (lw_Rlen (lw_Rheld RX71.out Ch69.out)) (Kd.S_reads' (lw_Sheld RX72.out Ch69.out)).2.2 (lw_Slen (lw_Sheld RX72.out Ch69.out)) Ez.out).mono ?_; rintro e w74 ⟨v7, v8, v9, rfl, ho7, ho8, ho9, hb⟩; refine ⟨_, rfl, ?_⟩; have OCh8_Ch75 := Aside0.mk (show gb6 < w68.heap.size from Nat.lt_of_lt_of_le (blk_lt BKgb6.out) Ch8.out.1); have OCh18_Ch75 := Aside0.mk (show w17.heap.size ≤ w68.heap.size from Ch18.out.1); have OCh26_Ch75 := Aside0.mk (show gb23 < w68.heap.size from Nat.lt_of_lt_of_le (blk_lt BKgb23.out) Ch26.out.1); have OCh37_Ch75 := Aside0.mk (show gb34 < w68.heap.size from Nat.lt_of_lt_of_le (blk_lt BKgb34.out) Ch37.out.1); have OCh48_Ch75 := Aside0.mk (show gb45 < w68.heap.size from Nat.lt_of_lt_of_le (blk_lt BKgb45.out) Ch48.out.1); have OCh62_Ch75 := Aside0.mk (show w61.heap.size ≤ w68.heap.size from Ch62.out.1); have OCh69_Ch75 := Aside0.mk (show w68.heap.size ≤ w68.heap.size from Ch69.out.1); have OBCh75 := Aside0.mk (show w.heap.size ≤ w68.heap.size from HB.out.size); obtain ⟨A76, c76, rfl⟩ := Kd.R_slice ho7; have RX76 := Aside0.mk (lw_Rcap ho7); obtain ⟨A77, c77, rfl⟩ := Kd.R_slice ho8; have RX77 := Aside0.mk (lw_Rcap ho8); obtain ⟨A78, c78, rfl⟩ := Kd.S_slice ho9; have RX78 := Aside0.mk (lw_Scap ho9); clear ho7 ho8 ho9; have q0 := Aside0.mk (below_step HB.out hb); have q1 := Aside0.mk (Kept.below Ch8.out hb); have q2 := Aside0.mk (Kept.below Ch18.out hb); have q3 := Aside0.mk (Kept.below Ch26.out hb); have q4 := Aside0.mk (Kept.below Ch37.out hb); have q5 := Aside0.mk (Kept.below Ch48.out hb); have q6 := Aside0.mk (Kept.below Ch62.out hb); have q7 := Aside0.mk (Kept.below Ch69.out hb); clear HB Ch8 Ch18 Ch26 Ch37 Ch48 Ch62 Ch69; have HB := q0; have Ch8 := q1; have Ch18 := q2; have Ch26 := q3; have Ch37 := q4; have Ch48 := q5; have Ch62 := q6; have Ch69 := q7; clear q0 q1 q2 q3 q4 q5 q6 q7 hb; have Ch75 := Aside0.mk (Kept.refl w74 (fun k_ => ¬ (w68.heap.size ≤ k_ ∧ k_ < w74.heap.size))); clear Ch69) | ((with_reducible refine gate_dst (N := 12) rfl ?_); refine bev 12 53 #[.int .i64 0, .int .i64 0, .int .i64 0, .int .i64 0, .int .i64 0, .int .i64 0, .int .i64 0, .slice none 0 0, .slice none 0 0, .slice none 0 0] ?_; intro gb80 hg w81 hbox hb; have GBgb80 := Aside0.mk (show w.heap.size ≤ gb80 by rw [hg]; exact HB.out.size); have GCh8_gb80 := Aside0.mk (show w7.heap.size ≤ gb80 by rw [hg]; exact Ch8.out.1); have GCh18_gb80 := Aside0.mk (show w17.heap.size ≤ gb80 by rw [hg]; exact Ch18.out.1); have GCh26_gb80 := Aside0.mk (show w25.heap.size ≤ gb80 by rw [hg]; exact Ch26.out.1); have GCh37_gb80 := Aside0.mk (show w36.heap.size ≤ gb80 by rw [hg]; exact Ch37.out.1); have GCh48_gb80 := Aside0.mk (show w47.heap.size ≤ gb80 by rw [hg]; exact Ch48.out.1); have GCh62_gb80 := Aside0.mk (show w61.heap.size ≤ gb80 by rw [hg]; exact Ch62.out.1); have GCh75_gb80 := Aside0.mk (show w74.heap.size ≤ gb80 by rw [hg]; exact Ch75.out.1); have q0 := Aside0.mk (below_step HB.out hb); have q1 := Aside0.mk (Kept.below Ch8.out hb); have q2 := Aside0.mk (Kept.below Ch18.out hb); have q3 := Aside0.mk (Kept.below Ch26.out hb); have q4 := Aside0.mk (Kept.below Ch37.out hb); have q5 := Aside0.mk (Kept.below Ch48.out hb); have q6 := Aside0.mk (Kept.below Ch62.out hb); have q7 := Aside0.mk (Kept.below Ch75.out hb); clear HB Ch8 Ch18 Ch26 Ch37 Ch48 Ch62 Ch75; have HB := q0; have Ch8 := q1; have Ch18 := q2; have Ch26 := q3; have Ch37 := q4; have Ch48 := q5; have Ch62 := q6; have Ch75 := q7; clear q0 q1 q2 q3 q4 q5 q6 q7 hb; have BZ := Aside0.mk hbox; obtain ⟨cz0, cz1, cz2, cz3, cz4, cz5, cz6, cz7, cz8, cz9⟩ := lw_cells10 hbox; obtain ⟨cf0, cf1, cf2, cf3, cf4, cf5, cf6, cf7, cf8, cf9⟩ := lw_frz10 hbox; clear hbox hg) | ((with_reducible refine gate_store (t := 53) (p := 12) rfl ?_); refine store_event (t := 53) (p := 12) (v := ?vo_w82) (w1 := ((((((((((w81.setCell ⟨gb80, 0, none⟩ (.int .i64 z0)).setCell ⟨gb80, 1, none⟩ (.int .i64 z1)).setCell ⟨gb80, 2, none⟩ (.int .i64 z2)).setCell ⟨gb80, 3, none⟩ (.int .i64 z3)).setCell ⟨gb80, 4, none⟩ (.int .i64 z4)).setCell ⟨gb80, 5, none⟩ (.int .i64 z5)).setCell ⟨gb80, 6, none⟩ (.int .i64 z6)).setCell ⟨gb80, 7, none⟩ (.slice A76 z7.length c76)).setCell ⟨gb80, 8, none⟩ (.slice A77 z8.length c77)).setCell ⟨gb80, 9, none⟩ (.slice A78 z9.length c78))) ?hg ?ho ?hn ?hr ?_; (case ho => rfl); (case hg => rfl); (case hn => rfl); (case hr => first | (go_simp; done) | (go_simp; rfl)); intro w82 hw; have q0 := Aside0.mk (show Below w.heap.size w w82 by rw [hw]; exact lw_putb10 HB.out GBgb80.out (.int .i64 z0) (.int .i64 z1) (.int .i64 z2) (.int .i64 z3) (.int .i64 z4) (.int .i64 z5) (.int .i64 z6) (.slice A76 z7.length c76) (.slice A77 z8.length c77) (.slice A78 z9.length c78)); have q1 := Aside0.mk (show Kept w7 w82 (fun k_ => ¬ k_ = gb6) by rw [hw]; exact lw_putk10 Ch8.out (.inr GCh8_gb80.out) (.int .i64 z0) (.int .i64 z1) (.int .i64 z2) (.int .i64 z3) (.int .i64 z4) (.int .i64 z5) (.int .i64 z6) (.slice A76 z7.length c76) (.slice A77 z8.length c77) (.slice A78 z9.length c78)); have q2 := Aside0.mk (show Kept w17 w82 (fun k_ => ¬ (w11.heap.size ≤ k_ ∧ k_ < w17.heap.size)) by rw [hw]; exact lw_putk10 Ch18.out (.inr GCh18_gb80.out) (.int .i64 z0) (.int .i64 z1) (.int .i64 z2) (.int .i64 z3) (.int .i64 z4) (.int .i64 z5) (.int .i64 z6) (.slice A76 z7.length c76) (.slice A77 z8.length c77) (.slice A78 z9.length c78)); have q3 := Aside0.mk (show Kept w25 w82 (fun k_ => ¬ k_ = gb23) by rw [hw]; exact lw_putk10 Ch26.out (.inr GCh26_gb80.out) (.int .i64 z0) (.int .i64 z1) (.int .i64 z2) (.int .i64 z3) (.int .i64 z4) (.int .i64 z5) (.int .i64 z6) (.slice A76 z7.length c76) (.slice A77 z8.length c77) (.slice A78 z9.length c78)); have q4 := Aside0.mk (show Kept w36 w82 (fun k_ => ¬ k_ = gb34) by rw [hw]; exact lw_putk10 Ch37.out (.inr GCh37_gb80.out) (.int .i64 z0) (.int .i64 z1) (.int .i64 z2) (.int .i64 z3) (.int .i64 z4) (.int .i64 z5) (.int .i64 z6) (.slice A76 z7.length c76) (.slice A77 z8.length c77) (.slice A78 z9.length c78)); have q5 := Aside0.mk (show Kept w47 w82 (fun k_ => ¬ k_ = gb45) by rw [hw]; exact lw_putk10 Ch48.out (.inr GCh48_gb80.out) (.int .i64 z0) (.int .i64 z1) (.int .i64 z2) (.int .i64 z3) (.int .i64 z4) (.int .i64 z5) (.int .i64 z6) (.slice A76 z7.length c76) (.slice A77 z8.length c77) (.slice A78 z9.length c78)); have q6 := Aside0.mk (show Kept w61 w82 (fun k_ => ¬ (w.heap.size ≤ k_ ∧ k_ < w61.heap.size)) by rw [hw]; exact lw_putk10 Ch62.out (.inr GCh62_gb80.out) (.int .i64 z0) (.int .i64 z1) (.int .i64 z2) (.int .i64 z3) (.int .i64 z4) (.int .i64 z5) (.int .i64 z6) (.slice A76 z7.length c76) (.slice A77 z8.length c77) (.slice A78 z9.length c78)); have q7 := Aside0.mk (show Kept w74 w82 (fun k_ => ¬ (w68.heap.size ≤ k_ ∧ k_ < w74.heap.size)) by rw [hw]; exact lw_putk10 Ch75.out (.inr GCh75_gb80.out) (.int .i64 z0) (.int .i64 z1) (.int .i64 z2) (.int .i64 z3) (.int .i64 z4) (.int .i64 z5) (.int .i64 z6) (.slice A76 z7.length c76) (.slice A77 z8.length c77) (.slice A78 z9.length c78)); clear HB Ch8 Ch18 Ch26 Ch37 Ch48 Ch62 Ch75; have HB := q0; have Ch8 := q1; have Ch18 := q2; have Ch26 := q3; have Ch37 := q4; have Ch48 := q5; have Ch62 := q6; have Ch75 := q7; clear q0 q1 q2 q3 q4 q5 q6 q7; have BKgb80 := Aside0.mk (show w82.heap[gb80]? = some (.cells #[.int .i64 z0, .int .i64 z1, .int .i64 z2, .int .i64 z3, .int .i64 z4, .int .i64 z5, .int .i64 z6, .slice A76 z7.length c76, .slice A77 z8.length c77, .slice A78 z9.length c78] 53 (0, 0)) by rw [hw]; exact lw_put10 BZ.out (.int .i64 z0) (.int .i64 z1) (.int .i64 z2) (.int .i64 z3) (.int .i64 z4) (.int .i64 z5) (.int .i64 z6) (.slice A76 z7.length c76) (.slice A77 z8.length c77) (.slice A78 z9.length c78)); clear hw BZ; have Ch83 := Aside0.mk (Kept.refl w82 (fun k_ => ¬ k_ = gb80)); clear cz0 cz1 cz2 cz3 cz4 cz5 cz6 cz7 cz8 cz9 cf0 cf1 cf2 cf3 cf4 cf5 cf6 cf7 cf8 cf9; obtain ⟨ccgb80_0, ccgb80_1, ccgb80_2, ccgb80_3, ccgb80_4, ccgb80_5, ccgb80_6, ccgb80_7, ccgb80_8, ccgb80_9⟩ := lw_cells10 (blk_kept BKgb80.out Ch83.out (fun h_ => h_ rfl)); obtain ⟨ccgb23_0, ccgb23_1, ccgb23_2, ccgb23_3, ccgb23_4, ccgb23_5, ccgb23_6, ccgb23_7, ccgb23_8, ccgb23_9⟩ := lw_cells10 (blk_kept BKgb23.out Ch26.out (fun h_ => h_ rfl))) | ((with_reducible refine gate_callee (f := 38) rfl ?_); refine goesL_ (some 64) rfl rfl Try.func38 (by kernel_rfl) rfl #[.agg #[.int .i64 z0, .int .i64 z1, .int .i64 z2, .int .i64 z3, .int .i64 z4, .int .i64 z5, .int .i64 z6, .slice A76 z7.length c76, .slice A77 z8.length c77, .slice A78 z9.length c78], .agg #[.int .i64 y0, .int .i64 y1, .int .i64 y2, .int .i64 y3, .int .i64 y4, .int .i64 y5, .int .i64 y6, .slice A19 y7.length c19, .slice A20 y8.length c20, .slice A21 y9.length c21]] rfl (by (try simp only [List.map_toArray, List.map_cons, List.map_nil]); first | done | rfl) ?_; refine (laws_eqPartResult.calls k z0 z1 z2 z3 z4 z5 z6 A76 c76 z7 A77 c77 z8 A78 c78 z9 y0 y1 y2 y3 y4 y5 y6 A19 c19 y7 A20 c20 y8 A21 c21 y9 true _ (Kd.R_reads' (lw_Rheld RX76.out Ch75.out)).2.2 (lw_Rlen (lw_Rheld RX76.out Ch75.out)) (Kd.R_reads' (lw_Rheld RX77.out Ch75.out)).2.2 (lw_Rlen (lw_Rheld RX77.out Ch75.out)) (Kd.S_reads' (lw_Sheld RX78.out Ch75.out)).2.2 (lw_Slen (lw_Sheld RX78.out Ch75.out)) (Kd.R_reads' (lw_Rheld RX19.out Ch18.out)).2.2 (lw_Rlen (lw_Rheld RX19.out Ch18.out)) (Kd.R_reads' (lw_Rheld RX20.out Ch18.out)).2.2 (lw_Rlen (lw_Rheld RX20.out Ch18.out)) (Kd.S_reads' (lw_Sheld RX21.out Ch18.out)).2.2 (lw_Slen (lw_Sheld RX21.out Ch18.out)) Er.out).mono ?_; rintro e w85 ⟨rfl, hb⟩; refine ⟨_, rfl, ?_⟩; have q0 := Aside0.mk (below_step HB.out hb); have q1 := Aside0.mk (Kept.below Ch8.out hb); have q2 := Aside0.mk (Kept.below Ch18.out hb); have q3 := Aside0.mk (Kept.below Ch26.out hb); have q4 := Aside0.mk (Kept.below Ch37.out hb); have q5 := Aside0.mk (Kept.below Ch48.out hb); have q6 := Aside0.mk (Kept.below Ch62.out hb); have q7 := Aside0.mk (Kept.below Ch75.out hb); have q8 := Aside0.mk (Kept.below Ch83.out hb); clear HB Ch8 Ch18 Ch26 Ch37 Ch48 Ch62 Ch75 Ch83; have HB := q0; have Ch8 := q1; have Ch18 := q2; have Ch26 := q3; have Ch37 := q4; have Ch48 := q5; have Ch62 := q6; have Ch75 := q7; have Ch83 := q8; clear q0 q1 q2 q3 q4 q5 q6 q7 q8 hb ccgb80_0 ccgb80_1 ccgb80_2 ccgb80_3 ccgb80_4 ccgb80_5 ccgb80_6 ccgb80_7 ccgb80_8 ccgb80_9 ccgb23_0 ccgb23_1 ccgb23_2 ccgb23_3 ccgb23_4 ccgb23_5 ccgb23_6 ccgb23_7 ccgb23_8 ccgb23_9; obtain ⟨ccgb45_0, ccgb45_1, ccgb45_2, ccgb45_3, ccgb45_4, ccgb45_5, ccgb45_6, ccgb45_7, ccgb45_8, ccgb45_9⟩ := lw_cells10 (blk_kept BKgb45.out Ch48.out (fun h_ => h_ rfl))) | ((with_reducible refine gate_callee (f := 40) rfl ?_); refine goesL_ (some 68) rfl rfl Try.func40 (by kernel_rfl) rfl #[.agg #[.int .i64 z0, .int .i64 z1, .int .i64 z2, .int .i64 z3, .int .i64 z4, .int .i64 z5, .int .i64 z6, .slice A41 zm7.length c41, .slice A42 zm8.length c42, .slice A43 zm9.length c43], .int .i64 1] rfl (by (try simp only [List.map_toArray, List.map_cons, List.map_nil]); first | done | rfl) ?_; refine (laws_heldPartResult.calls k z0 z1 z2 z3 z4 z5 z6 A41 c41 zm7 A42 c42 zm8 A43 c43 zm9 1 q _ (Kd.R_reads' (lw_Rheld RX63.out Ch62.out)).2.2 (lw_Rlen (lw_Rheld RX63.out Ch62.out)) (Kd.R_reads' (lw_Rheld RX64.out Ch62.out)).2.2 (lw_Rlen (lw_Rheld RX64.out Ch62.out)) (Kd.S_reads' (lw_Sheld RX65.out Ch62.out)).2.2 (lw_Slen (lw_Sheld RX65.out Ch62.out)) Eh.out).mono ?_; rintro e w86 ⟨rfl, hb⟩; refine ⟨_, rfl, ?_⟩; have q0 := Aside0.mk (below_step HB.out hb); have q1 := Aside0.mk (Kept.below Ch8.out hb); have q2 := Aside0.mk (Kept.below Ch18.out hb); have q3 := Aside0.mk (Kept.below Ch26.out hb); have q4 := Aside0.mk (Kept.below Ch37.out hb); have q5 := Aside0.mk (Kept.below Ch48.out hb); have q6 := Aside0.mk (Kept.below Ch62.out hb); have q7 := Aside0.mk (Kept.below Ch75.out hb); have q8 := Aside0.mk (Kept.below Ch83.out hb); clear HB Ch8 Ch18 Ch26 Ch37 Ch48 Ch62 Ch75 Ch83; have HB := q0; have Ch8 := q1; have Ch18 := q2; have Ch26 := q3; have Ch37 := q4; have Ch48 := q5; have Ch62 := q6; have Ch75 := q7; have Ch83 := q8; clear q0 q1 q2 q3 q4 q5 q6 q7 q8 hb ccgb45_0 ccgb45_1 ccgb45_2 ccgb45_3 ccgb45_4 ccgb45_5 ccgb45_6 ccgb45_7 ccgb45_8 ccgb45_9))
  go_ret
  exact ⟨by first | rfl | (simp; done) | (simp [*]; done), HB.out⟩

/-- THE ONE PURE STATEMENT of laws_FnExactPartOf. -/
def laws_FnExactPartOf.Pure : Prop := ∀ (a0_0 : Int) (a0_1 : Int) (a0_2 : Int) (a0_3 : Int) (a0_4 : Int) (l0_5 : List Int) (l0_6 : List Int) (l0_7 : List (List Int)) (a1 : Int), (Lit.int .i64 a0_0).wf = true → (Lit.int .i64 a0_1).wf = true → (Lit.int .i64 a0_2).wf = true → (Lit.int .i64 a0_3).wf = true → (Lit.int .i64 a0_4).wf = true → l0_5.length ≤ maxLen → (∀ x ∈ l0_5, (Lit.int .i64 x).wf = true) → l0_6.length ≤ maxLen → (∀ x ∈ l0_6, (Lit.int .i64 x).wf = true) → l0_7.length ≤ maxLen → (∀ l ∈ l0_7, l.length ≤ maxLen ∧ ∀ x ∈ l, (Lit.int .i64 x).wf = true) → (Lit.int .i64 a1).wf = true → ∃ k, laws_FnExactPartOf.f k a0_0 a0_1 a0_2 a0_3 a0_4 l0_5 l0_6 l0_7 a1 = some true
theorem laws_FnExactPartOf.walk (P : laws_FnExactPartOf.Pure) (a0_0 : Int) (a0_1 : Int) (a0_2 : Int) (a0_3 : Int) (a0_4 : Int) (A0_5 : Option Addr) (c0_5 : Nat) (l0_5 : List Int) (A0_6 : Option Addr) (c0_6 : Nat) (l0_6 : List Int) (A0_7 : Option Addr) (c0_7 : Nat) (l0_7 : List (List Int)) (a1 : Int) (w : World) (w0_0_0 : (Lit.int .i64 a0_0).wf = true) (w0_1_0 : (Lit.int .i64 a0_1).wf = true) (w0_2_0 : (Lit.int .i64 a0_2).wf = true) (w0_3_0 : (Lit.int .i64 a0_3).wf = true) (w0_4_0 : (Lit.int .i64 a0_4).wf = true) (w0_5_0 : l0_5.length ≤ maxLen) (w0_5_1 : (∀ x ∈ l0_5, (Lit.int .i64 x).wf = true)) (w0_6_0 : l0_6.length ≤ maxLen) (w0_6_1 : (∀ x ∈ l0_6, (Lit.int .i64 x).wf = true)) (w0_7_0 : l0_7.length ≤ maxLen) (w0_7_1 : (∀ l ∈ l0_7, l.length ≤ maxLen ∧ ∀ x ∈ l, (Lit.int .i64 x).wf = true)) (w1_0 : (Lit.int .i64 a1).wf = true) (hr0_5 : Kd.C (Kd.int .i64) w A0_5 l0_5.length l0_5) (hc0_5 : l0_5.length ≤ c0_5) (hr0_6 : Kd.C (Kd.int .i64) w A0_6 l0_6.length l0_6) (hc0_6 : l0_6.length ≤ c0_6) (hr0_7 : Kd.C (Kd.slice 2 (Kd.int .i64)) w A0_7 l0_7.length l0_7) (hc0_7 : l0_7.length ≤ c0_7) :
    Calls Try.prog 7 #[.agg #[.int .i64 a0_0, .int .i64 a0_1, .int .i64 a0_2, .int .i64 a0_3, .int .i64 a0_4, .slice A0_5 l0_5.length c0_5, .slice A0_6 l0_6.length c0_6, .slice A0_7 l0_7.length c0_7], .int .i64 a1] w fun e w' => e = .returned (.bool true) ∧ Below w.heap.size w w' := by
  obtain ⟨k, h⟩ := P a0_0 a0_1 a0_2 a0_3 a0_4 l0_5 l0_6 l0_7 a1 w0_0_0 w0_1_0 w0_2_0 w0_3_0 w0_4_0 w0_5_0 w0_5_1 w0_6_0 w0_6_1 w0_7_0 w0_7_1 w1_0
  refine (laws_FnExactPartOf.calls k a0_0 a0_1 a0_2 a0_3 a0_4 A0_5 c0_5 l0_5 A0_6 c0_6 l0_6 A0_7 c0_7 l0_7 a1 true w hr0_5 hc0_5 hr0_6 hc0_6 hr0_7 hc0_7 h).mono ?_
  rintro e w' ⟨rfl, hd⟩
  exact ⟨rfl, hd⟩

end Go.Proofs.Ythehhncokikgcaa.PFnExactPartOf
