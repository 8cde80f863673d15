-- Contracts of the functions that the law reaches, written by wip/xprint.py of this repo.
import Derived.Test.YthehhncokikgcaaPFnExactPartOfx0
import Derived.Test.YthehhncokikgcaaPFnExactPartOfx1
namespace Go.Proofs.Ythehhncokikgcaa.PFnExactPartOf
open Go.RowKit Go.Proofs.YthehhncokikgcaaW.PrintWords Go.Proofs.YthehhncokikgcaaW.PrintLast Go.Proofs.YthehhncokikgcaaW.PrintMore
attribute [local go_sem] max2_int min2_int max_two min_two max_three min_three max_four min_four   -- for this text's walks alone
set_option linter.unusedVariables false
set_option linter.unusedSimpArgs false

/-! ### laws_eqFrame: function 24 -/
def laws_eqFrame.f (k : Nat) (a0_0 : Int) (a0_1 : Int) (a0_2 : Int) (a0_3 : Int) (a0_4 : Int) (l0_5 : List Int) (l0_6 : List Int) (l0_7 : List (List Int)) (a1_0 : Int) (a1_1 : Int) (a1_2 : Int) (a1_3 : Int) (a1_4 : Int) (l1_5 : List Int) (l1_6 : List Int) (l1_7 : List (List Int)) : Option (Bool) := if a0_0 = a1_0 then (if a0_1 = a1_1 then (if a0_2 = a1_2 then (if a0_3 = a1_3 then (if a0_4 = a1_4 then ((laws_eqInt64S.f k l0_5 l1_5).bind fun t139 => (if t139 = true then ((laws_eqInt64S.f k l0_6 l1_6).bind fun t140 => (if t140 = true then ((laws_eqInt64SS.f k l0_7 l1_7).bind fun t141 => (if t141 = true then (some true) else (none))) else (none))) else (none))) else (none)) else (none)) else (none)) else (none)) else (none)
theorem laws_eqFrame.mono : ∀ a0 a1 a2 a3 a4 a5 a6 a7 a8 a9 a10 a11 a12 a13 a14 a15 k, LeO (laws_eqFrame.f k a0 a1 a2 a3 a4 a5 a6 a7 a8 a9 a10 a11 a12 a13 a14 a15) (laws_eqFrame.f (k + 1) a0 a1 a2 a3 a4 a5 a6 a7 a8 a9 a10 a11 a12 a13 a14 a15) := by
 intro a0 a1 a2 a3 a4 a5 a6 a7 a8 a9 a10 a11 a12 a13 a14 a15 k
 unfold laws_eqFrame.f
 repeat' first
   | (with_reducible exact laws_eqInt64S.mono _ _ _)
   | (with_reducible exact laws_eqInt64SS.mono _ _ _)
   | (with_reducible exact LeO.refl _)
   | (with_reducible exact LeO.none _)
   | (with_reducible refine LeO.ite ?_ ?_)
   | (with_reducible refine LeO.bind ?_ (fun _ => ?_))
   | exact laws_eqInt64S.mono _ _ _
   | exact laws_eqInt64SS.mono _ _ _
   | exact LeO.none _
   | refine LeO.ite ?_ ?_
   | refine LeO.bind ?_ (fun _ => ?_)
set_option maxHeartbeats 8000000 in
set_option maxRecDepth 100000 in
theorem laws_eqFrame.calls (k : Nat) (a0_0 : Int) (a0_1 : Int) (a0_2 : Int) (a0_3 : Int) (a0_4 : Int) (A0_5 : Option Addr) (c0_5 : Nat) (l0_5 : List Int) (A0_6 : Option Addr) (c0_6 : Nat) (l0_6 : List Int) (A0_7 : Option Addr) (c0_7 : Nat) (l0_7 : List (List Int)) (a1_0 : Int) (a1_1 : Int) (a1_2 : Int) (a1_3 : Int) (a1_4 : Int) (A1_5 : Option Addr) (c1_5 : Nat) (l1_5 : List Int) (A1_6 : Option Addr) (c1_6 : Nat) (l1_6 : List Int) (A1_7 : Option Addr) (c1_7 : Nat) (l1_7 : List (List Int)) (r : Bool) (w : World) (hr0_5 : Kd.C (Kd.int .i64) w A0_5 l0_5.length l0_5) (hc0_5 : l0_5.length ≤ c0_5) (hr0_6 : Kd.C (Kd.int .i64) w A0_6 l0_6.length l0_6) (hc0_6 : l0_6.length ≤ c0_6) (hr0_7 : Kd.C (Kd.slice 2 (Kd.int .i64)) w A0_7 l0_7.length l0_7) (hc0_7 : l0_7.length ≤ c0_7) (hr1_5 : Kd.C (Kd.int .i64) w A1_5 l1_5.length l1_5) (hc1_5 : l1_5.length ≤ c1_5) (hr1_6 : Kd.C (Kd.int .i64) w A1_6 l1_6.length l1_6) (hc1_6 : l1_6.length ≤ c1_6) (hr1_7 : Kd.C (Kd.slice 2 (Kd.int .i64)) w A1_7 l1_7.length l1_7) (hc1_7 : l1_7.length ≤ c1_7) (h : laws_eqFrame.f k a0_0 a0_1 a0_2 a0_3 a0_4 l0_5 l0_6 l0_7 a1_0 a1_1 a1_2 a1_3 a1_4 l1_5 l1_6 l1_7 = some r) :
  Calls Try.prog 24 #[.agg #[.int .i64 a0_0, .int .i64 a0_1, .int .i64 a0_2, .int .i64 a0_3, .int .i64 a0_4, .slice A0_5 l0_5.length c0_5, .slice A0_6 l0_6.length c0_6, .slice A0_7 l0_7.length c0_7], .agg #[.int .i64 a1_0, .int .i64 a1_1, .int .i64 a1_2, .int .i64 a1_3, .int .i64 a1_4, .slice A1_5 l1_5.length c1_5, .slice A1_6 l1_6.length c1_6, .slice A1_7 l1_7.length c1_7]] w fun e w' => e = .returned (.bool r) ∧ Below w.heap.size w w' := by
 have hu36 := Try.underlying36
 have HR0_5 := Aside0.mk hr0_5
 have HC0_5 := Aside0.mk hc0_5
 clear hr0_5 hc0_5
 have HR0_6 := Aside0.mk hr0_6
 have HC0_6 := Aside0.mk hc0_6
 clear hr0_6 hc0_6
 have HR0_7 := Aside0.mk hr0_7
 have HC0_7 := Aside0.mk hc0_7
 clear hr0_7 hc0_7
 have HR1_5 := Aside0.mk hr1_5
 have HC1_5 := Aside0.mk hc1_5
 clear hr1_5 hc1_5
 have HR1_6 := Aside0.mk hr1_6
 have HC1_6 := Aside0.mk hc1_6
 clear hr1_6 hc1_6
 have HR1_7 := Aside0.mk hr1_7
 have HC1_7 := Aside0.mk hc1_7
 clear hr1_7 hc1_7
 have HB := Aside0.mk (Below.refl w.heap.size w)
 have H : (if a0_0 = a1_0 then (if a0_1 = a1_1 then (if a0_2 = a1_2 then (if a0_3 = a1_3 then (if a0_4 = a1_4 then ((laws_eqInt64S.f k l0_5 l1_5).bind fun t139 => (if t139 = true then ((laws_eqInt64S.f k l0_6 l1_6).bind fun t140 => (if t140 = true then ((laws_eqInt64SS.f k l0_7 l1_7).bind fun t141 => (if t141 = true then (some true) else (none))) else (none))) else (none))) else (none)) else (none)) else (none)) else (none)) else (none)) = some r := h
 clear h
 by_cases c3 : a0_0 = a1_0
 ·rw [if_pos c3] at H
  have c3b0 : (a0_0 == a1_0) = true := beq_iff_eq.mpr c3
  have c3b1 : (a0_0 != a1_0) = false := bne_eq_false_iff_eq.mpr c3
  clear c3
  by_cases c4 : a0_1 = a1_1
  ·rw [if_pos c4] at H
   have c4b0 : (a0_1 == a1_1) = true := beq_iff_eq.mpr c4
   have c4b1 : (a0_1 != a1_1) = false := bne_eq_false_iff_eq.mpr c4
   clear c4
   by_cases c5 : a0_2 = a1_2
   ·rw [if_pos c5] at H
    have c5b0 : (a0_2 == a1_2) = true := beq_iff_eq.mpr c5
    have c5b1 : (a0_2 != a1_2) = false := bne_eq_false_iff_eq.mpr c5
    clear c5
    by_cases c6 : a0_3 = a1_3
    ·rw [if_pos c6] at H
     have c6b0 : (a0_3 == a1_3) = true := beq_iff_eq.mpr c6
     have c6b1 : (a0_3 != a1_3) = false := bne_eq_false_iff_eq.mpr c6
     clear c6
     by_cases c7 : a0_4 = a1_4
     ·rw [if_pos c7] at H
      have c7b0 : (a0_4 == a1_4) = true := beq_iff_eq.mpr c7
      have c7b1 : (a0_4 != a1_4) = false := bne_eq_false_iff_eq.mpr c7
      clear c7
      obtain ⟨t139, A8, H⟩ := bnd H
      by_cases c9 : t139 = true
      ·subst c9
       replace H : ((laws_eqInt64S.f k l0_6 l1_6).bind fun t140 => (if t140 = true then ((laws_eqInt64SS.f k l0_7 l1_7).bind fun t141 => (if t141 = true then (some true) else (none))) else (none))) = some r := by rw [if_pos rfl] at H; exact H
       obtain ⟨t140, A10, H⟩ := bnd H
       by_cases c11 : t140 = true
       ·subst c11
        replace H : ((laws_eqInt64SS.f k l0_7 l1_7).bind fun t141 => (if t141 = true then (some true) else (none))) = some r := by rw [if_pos rfl] at H; exact H
        obtain ⟨t141, A12, H⟩ := bnd H
        by_cases c13 : t141 = true
        ·subst c13
         replace H : (some true) = some r := by rw [if_pos rfl] at H; exact H
         obtain rfl := Option.some.inj H
         go_enter Try.func24, Try.ntmps24
         go_wp2_with (first | ((with_reducible refine gate_dst (N := 2) rfl ?_); refine bev 2 36 #[.int .i64 a0_0, .int .i64 a0_1, .int .i64 a0_2, .int .i64 a0_3, .int .i64 a0_4, .slice A0_5 l0_5.length c0_5, .slice A0_6 l0_6.length c0_6, .slice A0_7 l0_7.length c0_7] ?_; intro gb137 hg w14 hbox hb; have BK137 := am hbox; have GW137 := gwe hg; have GE137 := gwe hg; replace HB := hbs hb; clear hb hbox hg) | ((with_reducible refine gate_dst (N := 3) rfl ?_); refine bev 3 36 #[.int .i64 a1_0, .int .i64 a1_1, .int .i64 a1_2, .int .i64 a1_3, .int .i64 a1_4, .slice A1_5 l1_5.length c1_5, .slice A1_6 l1_6.length c1_6, .slice A1_7 l1_7.length c1_7] ?_; intro gb138 hg w15 hbox hb; have BK138 := am hbox; have GW138 := gwe hg; have GE138 := gwe hg; replace HB := hbs hb; have NB137_138 := nbl hg BK137; have NB138_137 := nbg hg BK137; replace BK137 := bkb BK137 hb; clear hb hbox hg; have hnb16 := NB137_138.out; have hnc16 := NB138_137.out; obtain ⟨hcz17_0, hcz17_1, hcz17_2, hcz17_3, hcz17_4, hcz17_5, hcz17_6, hcz17_7, hfz17_0, hfz17_1, hfz17_2, hfz17_3, hfz17_4, hfz17_5, hfz17_6, hfz17_7⟩ := cf8 (W := w15) BK137.out; obtain ⟨hcz18_0, hcz18_1, hcz18_2, hcz18_3, hcz18_4, hcz18_5, hcz18_6, hcz18_7, hfz18_0, hfz18_1, hfz18_2, hfz18_3, hfz18_4, hfz18_5, hfz18_6, hfz18_7⟩ := cf8 (W := w15) BK138.out) | ((with_reducible refine gate_callee (f := 45) rfl ?_); refine gl_ 34 Try.func45 #[.slice A0_5 l0_5.length c0_5, .slice A1_5 l1_5.length c1_5] ?_; (with_reducible refine (laws_eqInt64S.calls k _ _ l0_5 _ _ l1_5 true _ ?_ ?_ ?_ ?_ A8.out).mono ?_); exact cpl HR0_5.out; exact HC0_5.out; exact cpl HR1_5.out; exact HC1_5.out; rintro e w' ⟨rfl, ⟨nd, rfl⟩⟩; refine ⟨_, rfl, ?_⟩) | ((with_reducible refine gate_callee (f := 45) rfl ?_); refine gl_ 40 Try.func45 #[.slice A0_6 l0_6.length c0_6, .slice A1_6 l1_6.length c1_6] ?_; (with_reducible refine (laws_eqInt64S.calls k _ _ l0_6 _ _ l1_6 true _ ?side1 ?side2 ?side3 ?side4 A10.out).mono ?_); (case side1 => repeat (first | exact (Kd.C_below HR0_6.out bnx) | (with_reducible refine Kd.C_alloc ?_ _) | (with_reducible refine Kd.C_drewN ?_ _) | (with_reducible refine Kd.C_drew ?_))); (case side2 => exact HC0_6.out); (case side3 => repeat (first | exact (Kd.C_below HR1_6.out bnx) | (with_reducible refine Kd.C_alloc ?_ _) | (with_reducible refine Kd.C_drewN ?_ _) | (with_reducible refine Kd.C_drew ?_))); (case side4 => exact HC1_6.out); rintro e w' ⟨rfl, ⟨nd, rfl⟩⟩; refine ⟨_, rfl, ?_⟩) | ((with_reducible refine gate_callee (f := 81) rfl ?_); refine gl_ 46 Try.func81 #[.slice A0_7 l0_7.length c0_7, .slice A1_7 l1_7.length c1_7] ?_; (with_reducible refine (laws_eqInt64SS.calls k _ _ l0_7 _ _ l1_7 true _ ?side1 ?side2 ?side3 ?side4 A12.out).mono ?_); (case side1 => repeat (first | exact (Kd.C_below HR0_7.out bnx) | (with_reducible refine Kd.C_alloc ?_ _) | (with_reducible refine Kd.C_drewN ?_ _) | (with_reducible refine Kd.C_drew ?_))); (case side2 => exact HC0_7.out); (case side3 => repeat (first | exact (Kd.C_below HR1_7.out bnx) | (with_reducible refine Kd.C_alloc ?_ _) | (with_reducible refine Kd.C_drewN ?_ _) | (with_reducible refine Kd.C_drew ?_))); (case side4 => exact HC1_7.out); rintro e w' ⟨rfl, ⟨nd, rfl⟩⟩; refine ⟨_, rfl, ?_⟩))
         go_ret
         exact ⟨enq, bnx⟩
        ·replace c13 := Bool.eq_false_iff.mpr c13
         subst c13
         replace H : (none) = some r := by rw [if_neg (show ¬ (false = true) by decide)] at H; exact H
         exact absurd H (by simp)
       ·replace c11 := Bool.eq_false_iff.mpr c11
        subst c11
        replace H : (none) = some r := by rw [if_neg (show ¬ (false = true) by decide)] at H; exact H
        exact absurd H (by simp)
      ·replace c9 := Bool.eq_false_iff.mpr c9
       subst c9
       replace H : (none) = some r := by rw [if_neg (show ¬ (false = true) by decide)] at H; exact H
       exact absurd H (by simp)
     ·rw [if_neg c7] at H
      exact absurd H (by simp)
    ·rw [if_neg c6] at H
     exact absurd H (by simp)
   ·rw [if_neg c5] at H
    exact absurd H (by simp)
  ·rw [if_neg c4] at H
   exact absurd H (by simp)
 ·rw [if_neg c3] at H
  exact absurd H (by simp)

/-! ### laws_markInt64S: function 46 -/
def laws_markInt64S.l0 : Nat → List Int → Int → Int → Option (Int × List Int)
 | 0, _, _, _ => none
 | k + 1, x0, x1, x5 => if x5 < (x0.length : Int) then (if 0 ≤ x5 then (laws_markInt64S.l0 k (x0.set (x5 : Int).toNat x1) (wrap64 (x1 + 1)) (wrap64 (x5 + 1))) else (none)) else (some (x1, x0))
def laws_markInt64S.f (k : Nat) (l0 : List Int) (a1 : Int) : Option (Int × List Int) := laws_markInt64S.l0 k l0 a1 0
theorem laws_markInt64S.mono_l : ∀ k, (∀ y0 y1 y2, LeO (laws_markInt64S.l0 k y0 y1 y2) (laws_markInt64S.l0 (k + 1) y0 y1 y2))
 | 0 => fun _ _ _ r h => by simp [laws_markInt64S.l0] at h
 | k + 1 => by
  have ih0 := laws_markInt64S.mono_l k
  ·intro y0 y1 y2
   unfold laws_markInt64S.l0
   repeat' first
   | (with_reducible exact ih0 _ _ _)
   | (with_reducible exact LeO.refl _)
   | (with_reducible exact LeO.none _)
   | (with_reducible refine LeO.ite ?_ ?_)
   | (with_reducible refine LeO.bind ?_ (fun _ => ?_))
   | exact ih0 _ _ _
   | exact LeO.none _
   | refine LeO.ite ?_ ?_
   | refine LeO.bind ?_ (fun _ => ?_)
theorem laws_markInt64S.mono : ∀ a0 a1 k, LeO (laws_markInt64S.f k a0 a1) (laws_markInt64S.f (k + 1) a0 a1) := by
 intro a0 a1 k
 have ih0 := laws_markInt64S.mono_l k
 unfold laws_markInt64S.f
 repeat' first
   | (with_reducible exact ih0 _ _ _)
   | (with_reducible exact LeO.refl _)
   | (with_reducible exact LeO.none _)
   | (with_reducible refine LeO.ite ?_ ?_)
   | (with_reducible refine LeO.bind ?_ (fun _ => ?_))
   | exact ih0 _ _ _
   | exact LeO.none _
   | refine LeO.ite ?_ ?_
   | refine LeO.bind ?_ (fun _ => ?_)
set_option maxHeartbeats 8000000 in
set_option maxRecDepth 100000 in
theorem laws_markInt64S.calls (k : Nat) (P0_ : Nat → Prop) (u9000_ : Value) (l0 : List Int) (a1 : Int) (r1 : Int) (r2 : List Int) (w0 w : World) (hB : Below w0.heap.size w0 w) (ho0 : Kd.R (Kd.int .i64) 2 w w0.heap.size P0_ u9000_ l0) (h : laws_markInt64S.f k l0 a1 = some (r1, r2)) :
  Calls Try.prog 46 #[u9000_, .int .i64 a1] w fun e w' => e = .returned (.int .i64 r1) ∧ Kd.R (Kd.int .i64) 2 w' w0.heap.size (fun k_ => (P0_ k_ ∨ w.heap.size ≤ k_)) u9000_ r2 ∧ Below w0.heap.size w0 w' ∧ Kept w w' (fun k_ => P0_ k_) := by
 have HO0 := Aside0.mk (show Kd.R (Kd.int .i64) 2 w w0.heap.size (fun k_ => (P0_ k_ ∨ w.heap.size ≤ k_)) u9000_ l0 from Kd.R_mono ho0 (fun k_ hk => (.inl hk)))
 have HK := Aside0.mk (Kept.refl w (fun k_ => P0_ k_))
 have HW0 := Aside0.mk hB.size
 have HB := Aside0.mk hB
 clear hB
 have H : (laws_markInt64S.l0 k l0 a1 0) = some (r1, r2) := h
 clear h
 have H' := Aside0.mk H
 clear H
 go_enter Try.func46, Try.ntmps46
 go_wp2
 go_loopg [1, 5] k (fun kq v1 v5 w' => ∃ (x0_1 : List Int) (x1_1 : Int) (x5_1 : Int), v1 = .int .i64 x1_1 ∧ v5 = .int .i64 x5_1 ∧ Aside0 (laws_markInt64S.l0 kq x0_1 x1_1 x5_1 = some (r1, r2)) ∧ Aside0 (kq ≤ k) ∧ Aside0 (Kd.R (Kd.int .i64) 2 w' w0.heap.size (fun k_ => (P0_ k_ ∨ w.heap.size ≤ k_)) u9000_ x0_1) ∧ Aside0 (Kept w w' (fun k_ => P0_ k_)) ∧ Aside0 (Below w0.heap.size w0 w'))
 case atStart => exact ⟨(l0), (a1), (0), rq, rq, H', ⟨Nat.le_refl _⟩, ⟨HO0.out⟩, ⟨kpw⟩, ⟨bnw⟩⟩
 case round =>
  clear H'
  try clear p2
  obtain ⟨x0_1, x1_1, x5_1, rfl, rfl, HA, HK1, HO_0, HK, HB⟩ := hrel
  cases gk with
  | zero => exact absurd HA.out (by simp [laws_markInt64S.l0])
  | succ k1 =>
   have H := HA.out
   clear HA
   simp only [laws_markInt64S.l0] at H
   by_cases c3 : x5_1 < (x0_1.length : Int)
   ·rw [if_pos c3] at H
    have c3b0 : decide (x5_1 < (x0_1.length : Int)) = true := decide_eq_true c3
    clear c3
    by_cases c4 : 0 ≤ x5_1
    ·rw [if_pos c4] at H
     have c4b0 : decide (0 ≤ x5_1) = true := decide_eq_true c4
     clear c4
     obtain ⟨y142, hy142⟩ : ∃ y_ : List Int, y_ = (x0_1.set (x5_1 : Int).toNat x1_1) := ⟨_, rfl⟩
     replace H : (laws_markInt64S.l0 k1 y142 (wrap64 (x1_1 + 1)) (wrap64 (x5_1 + 1))) = some (r1, r2) := by first | (rw [hy142]; with_reducible exact H) | (have H2_ := (Option.bind_some _ _).symm.trans H; rw [hy142]; with_reducible exact H2_) | (have H2_ := (Option.bind_some _ _).symm.trans H; with_reducible exact H2_) | with_reducible exact H | (rw [hy142]; exact H) | exact H
     have Ny142 := Aside0.mk hy142
     clear hy142
     have H' := Aside0.mk H
     clear H
     obtain ⟨Ao6, co6, eo6⟩ := Kd.R_slice HO_0.out
     subst eo6
     have p5 : 0 ≤ (x5_1 : Int) := dta
     have q5 : (x5_1 : Int) < ((x0_1.length : Int) : Int) := dta
     obtain ⟨go5, co5, eo5, gb5, gl5, cl5, HG5⟩ := Kd.R_form HO_0.out (by omega)
     (first | cases eo5 | (injection eo5 with ea_ en_ ec_; (first | subst ea_ | (injection ea_ with ea_; subst ea_)); subst ec_; clear en_))
     have GB5 := Aside0.mk gb5
     have GG5 := Aside0.mk HG5
     clear gb5 gl5 HG5
     have HMgo5 := Aside0.mk (show (P0_ go5 ∨ w.heap.size ≤ go5) from (HO_0.out.1 _ rfl))
     obtain ⟨hx5_0, hf5_0⟩ := Kd.R_celln 0 HO_0.out (x5_1 : Int) p5 q5
     replace p5 := eq_true p5
     replace q5 := eq_true q5
     have HP7 := Kd.R_putg HO_0.out (x5_1 : Int) x1_1
     go_wp2_with (first | ((with_reducible refine gate_store (t := 2) (p := 15) rfl ?_); refine store_event (t := 2) (p := 15) (v := ?vo_w8) (w1 := (wr.setCell ⟨go5, (x5_1 : Int).toNat, none⟩ (.int .i64 x1_1))) ?hg ?ho ?hn ?hr ?_; (case ho => rfl); (case hg => rfl); (case hn => rfl); (case hr => first | (go_simp; done) | (go_simp; rfl)); intro w8 hw; have hg : wr.grownBy w8 (some go5) := (by rw [hw]; exact HP7.2); have hp_ : Kd.R (Kd.int .i64) 2 w8 w0.heap.size (fun k_ => (P0_ k_ ∨ w.heap.size ≤ k_)) (.slice (some ⟨go5, 0, none⟩) x0_1.length co6) y142 := (by rw [hw, Ny142.out]; exact HP7.1); clear HP7; replace HB := am (by rw [hw]; exact below_set (HB.out) GB5.out : Below w0.heap.size w0 w8); replace HK := am (Kept.of_grown (S := (fun k_ => P0_ k_)) hg kpw (fun k_ e_ => (HO_0.out.1 k_ e_))); replace HO_0 := am hp_; clear hg hw hp_))
     go_roundg k1
     case measure => have := HK1.out; omega
     case rel => exact ⟨(y142), (wrap64 (x1_1 + 1)), (wrap64 (x5_1 + 1)), rq, rq, H', ⟨by have := HK1.out; omega⟩, ⟨HO_0.out⟩, ⟨kpw⟩, ⟨bnw⟩⟩
    ·rw [if_neg c4] at H
     exact absurd H (by simp)
   ·rw [if_neg c3] at H
    have c3b0 : decide (x5_1 < (x0_1.length : Int)) = false := decide_eq_false c3
    clear c3
    simp only [Option.some.injEq, Prod.mk.injEq] at H
    obtain ⟨rfl, rfl⟩ := H
    obtain ⟨Ao9, co9, eo9⟩ := Kd.R_slice HO_0.out
    subst eo9
    go_wp2
    go_ret
    exact ⟨enq, HO_0.out, bnw, kpw⟩

/-! ### laws_markInt64SS: function 82 -/
def laws_markInt64SS.l0 : Nat → List (List Int) → Int → Int → Option (Int × List (List Int))
  | 0, _, _, _ => none
  | k + 1, x0, x1, x5 => if x5 < (x0.length : Int) then (if 0 ≤ x5 then ((laws_markInt64S.f k (rd_L1 x0 x5) x1).bind fun bt => (laws_markInt64SS.l0 k (x0.set (x5 : Int).toNat bt.2) bt.1 (wrap64 (x5 + 1)))) else (none)) else (some (x1, x0))
def laws_markInt64SS.f (k : Nat) (l0 : List (List Int)) (a1 : Int) : Option (Int × List (List Int)) := laws_markInt64SS.l0 k l0 a1 0
theorem laws_markInt64SS.mono_l : ∀ k, (∀ y0 y1 y2, LeO (laws_markInt64SS.l0 k y0 y1 y2) (laws_markInt64SS.l0 (k + 1) y0 y1 y2))
  | 0 => fun _ _ _ r h => by simp [laws_markInt64SS.l0] at h
  | k + 1 => by
    have ih0 := laws_markInt64SS.mono_l k
    · intro y0 y1 y2
      unfold laws_markInt64SS.l0
      repeat' first
      | (with_reducible exact ih0 _ _ _)
      | (with_reducible exact laws_markInt64S.mono _ _ _)
      | (with_reducible exact LeO.refl _)
      | (with_reducible exact LeO.none _)
      | (with_reducible refine LeO.ite ?_ ?_)
      | (with_reducible refine LeO.bind ?_ (fun _ => ?_))
      | exact ih0 _ _ _
      | exact laws_markInt64S.mono _ _ _
      | exact LeO.none _
      | refine LeO.ite ?_ ?_
      | refine LeO.bind ?_ (fun _ => ?_)
theorem laws_markInt64SS.mono : ∀ a0 a1 k, LeO (laws_markInt64SS.f k a0 a1) (laws_markInt64SS.f (k + 1) a0 a1) := fun a0 a1 k => laws_markInt64SS.mono_l k a0 a1 0
set_option maxHeartbeats 8000000 in
set_option maxRecDepth 100000 in
theorem laws_markInt64SS.calls (k : Nat) (P0_ : Nat → Prop) (u9000_ : Value) (l0 : List (List Int)) (a1 : Int) (r1 : Int) (r2 : List (List Int)) (w0 w : World) (hB : Below w0.heap.size w0 w) (ho0 : Kd.S (Kd.slice 2 (Kd.int .i64)) 24 w w0.heap.size P0_ u9000_ l0) (h : laws_markInt64SS.f k l0 a1 = some (r1, r2)) :
    Calls Try.prog 82 #[u9000_, .int .i64 a1] w fun e w' => e = .returned (.int .i64 r1) ∧ Kd.S (Kd.slice 2 (Kd.int .i64)) 24 w' w0.heap.size (fun k_ => (P0_ k_ ∨ w.heap.size ≤ k_)) u9000_ r2 ∧ Below w0.heap.size w0 w' ∧ Kept w w' (fun k_ => P0_ k_) := by
  obtain ⟨A, c, rfl⟩ := Kd.S_slice ho0
  have HO0 := Aside0.mk (show Kd.S (Kd.slice 2 (Kd.int .i64)) 24 w w0.heap.size (fun k_ => (P0_ k_ ∨ w.heap.size ≤ k_)) (.slice A l0.length c) l0 from Kd.S_mono ho0 (fun k_ hk => (.inl hk)))
  have HK := Aside0.mk (Kept.refl w (fun k_ => P0_ k_))
  have HB := Aside0.mk hB
  have hn := (Kd.S_reads' ho0).2.2.2.1
  have H' : Aside0 (laws_markInt64SS.l0 k l0 a1 0 = some (r1, r2)) := ⟨h⟩
  clear hB ho0 h
  go_enter Try.func82, Try.ntmps82
  go_wp2
  go_loopg [1, 5] k (fun kq v1 v5 w' => ∃ (x0 : List (List Int)) (x1 x5 : Int), v1 = .int .i64 x1 ∧ v5 = .int .i64 x5 ∧ x0.length = l0.length ∧ Aside0 (laws_markInt64SS.l0 kq x0 x1 x5 = some (r1, r2)) ∧ Aside0 (Kd.S (Kd.slice 2 (Kd.int .i64)) 24 w' w0.heap.size (fun k_ => (P0_ k_ ∨ w.heap.size ≤ k_)) (.slice A l0.length c) x0) ∧ Aside0 (Below w0.heap.size w0 w') ∧ Aside0 (Kept w w' (fun k_ => P0_ k_)))
  case atStart => exact ⟨l0, a1, 0, rfl, rfl, rfl, H', HO0, HB, HK⟩
  case round =>
    clear H' HO0 HB HK
    obtain ⟨x0, x1, x5, rfl, rfl, hlen, HA, HO, HB, HK⟩ := hrel
    cases gk with
    | zero => exact absurd HA.out (by simp [laws_markInt64SS.l0])
    | succ k1 =>
      have H := HA.out
      clear HA
      simp only [laws_markInt64SS.l0] at H
      by_cases c6 : x5 < (x0.length : Int)
      · rw [if_pos c6] at H
        by_cases c7 : 0 ≤ x5
        · rw [if_pos c7] at H
          replace H := Option.bind_eq_some_iff.mp H
          obtain ⟨⟨t1, t2⟩, A80, H⟩ := H
          have A8 := Aside0.mk A80
          have HN := Aside0.mk H
          clear A80 H
          have c6' : x5 < (l0.length : Int) := by omega
          have c6b := decide_eq_true c6'
          obtain ⟨g, cap, eo, gb, gl, cl, HG⟩ := Kd.S_form HO.out (by omega)
          injection eo with ea en ec
          subst ea
          subst ec
          obtain ⟨oki, ce, hcl, hM, hcc, hfr, hoki, hH⟩ := Kd.S_elem HO.out [] x5 c7 c6'
          obtain ⟨ve, rfl, ge⟩ := hM
          have hx := hcc 0 _ rfl
          simp only [show ((Kd.slice 2 (Kd.int .i64))).sz = 1 from rfl, Nat.mul_one, Nat.add_zero] at hx
          have HC := Aside0.mk (laws_markInt64S.calls k1 oki ve (rd_L1 x0 x5) x1 t1 t2 w0 wr HB.out ge A8.out)
          have HH := Aside0.mk hH
          have HOK := Aside0.mk hoki
          have HLEN := Aside0.mk hlen
          clear hcl hcc hfr hoki hH ge gb gl HG hlen en
          go_wp2_with (first | ((with_reducible refine gate_callee (f := 46) rfl ?_); refine goesL_ (some 17) rfl rfl Try.func46 (by kernel_rfl) rfl #[ve, .int .i64 x1] rfl (by (try simp only [List.map_toArray, List.map_cons, List.map_nil]); first | done | rfl) ?_; refine HC.out.mono ?_; rintro e w' ⟨rfl, ho2, hb2, hk2⟩; refine ⟨_, rfl, ?_⟩; have HO2 := Aside0.mk ho2; have HB2 := Aside0.mk hb2; have HK2 := Aside0.mk hk2; clear ho2 hb2 hk2))
          have hsz := HK.out.1
          have HS := Kd.H_back (Kd.H_step (Kd.H_widen HH.out) (fun k_ _ hn_ hlt_ => HK2.out.2 k_ hlt_ (fun hk_ => hn_ (Or.inl hk_)))) (x' := t2) (Kd.M_row HO2.out) (fun k_ hk_ => hk_.elim (fun h_ => Or.inl h_) (fun h_ => Or.inr ⟨Or.inr (Nat.le_trans hsz h_), h_⟩))
          have HKK := HK.out.then_ HK2.out (fun k_ hk_ => (HOK.out k_ hk_).1)
          go_roundg k1
          case measure => omega
          case rel => exact ⟨x0.set x5.toNat t2, t1, wrap64 (x5 + 1), rfl, (by first | rfl | go_num | (unfold wrap64; congr 1; omega)), by simpa using HLEN.out, HN, ⟨HS⟩, HB2, ⟨HKK⟩⟩
        · rw [if_neg c7] at H
          exact absurd H (by simp)
      · rw [if_neg c6] at H
        have c6' : ¬ x5 < (l0.length : Int) := by omega
        simp only [Option.some.injEq, Prod.mk.injEq] at H
        obtain ⟨rfl, rfl⟩ := H
        clear hlen c6
        go_wp2
        go_ret
        exact ⟨rfl, HO.out, HB.out, HK.out⟩

/-! ### laws_markFrame: function 25 -/
def laws_markFrame.f (k : Nat) (a0_0 : Int) (a0_1 : Int) (a0_2 : Int) (a0_3 : Int) (a0_4 : Int) (l0_5 : List Int) (l0_6 : List Int) (l0_7 : List (List Int)) (a1 : Int) : Option (Int × List Int × List Int × List (List Int)) := (laws_markInt64S.f k l0_5 a1).bind fun t1 => (laws_markInt64S.f k l0_6 t1.1).bind fun t2 => (laws_markInt64SS.f k l0_7 t2.1).bind fun t3 => some (t3.1, t1.2, t2.2, t3.2)
theorem laws_markFrame.mono : ∀ a0 a1 a2 a3 a4 a5 a6 a7 a8 k, LeO (laws_markFrame.f k a0 a1 a2 a3 a4 a5 a6 a7 a8) (laws_markFrame.f (k + 1) a0 a1 a2 a3 a4 a5 a6 a7 a8) := by
  intro a0 a1 a2 a3 a4 a5 a6 a7 a8 k
  unfold laws_markFrame.f
  refine LeO.bind (laws_markInt64S.mono _ _ _) (fun _ => ?_)
  refine LeO.bind (laws_markInt64S.mono _ _ _) (fun _ => ?_)
  refine LeO.bind (laws_markInt64SS.mono _ _ _) (fun _ => ?_)
  exact LeO.refl _
set_option maxHeartbeats 8000000 in
set_option maxRecDepth 100000 in
theorem laws_markFrame.calls (k : Nat) (P5_ P6_ P7_ : Nat → Prop) (u5_ u6_ u7_ : Value) (a0_0 : Int) (a0_1 : Int) (a0_2 : Int) (a0_3 : Int) (a0_4 : Int) (l0_5 : List Int) (l0_6 : List Int) (l0_7 : List (List Int)) (a1 : Int) (r1 : Int) (r2 : List Int) (r3 : List Int) (r4 : List (List Int)) (w0 w : World) (hB : Below w0.heap.size w0 w) (ho5 : Kd.R (Kd.int .i64) 2 w w0.heap.size P5_ u5_ l0_5) (ho6 : Kd.R (Kd.int .i64) 2 w w0.heap.size P6_ u6_ l0_6) (ho7 : Kd.S (Kd.slice 2 (Kd.int .i64)) 24 w w0.heap.size P7_ u7_ l0_7) (h5_6 : ∀ k_, P5_ k_ → ¬ P6_ k_) (h5_7 : ∀ k_, P5_ k_ → ¬ P7_ k_) (h6_7 : ∀ k_, P6_ k_ → ¬ P7_ k_) (h : laws_markFrame.f k a0_0 a0_1 a0_2 a0_3 a0_4 l0_5 l0_6 l0_7 a1 = some (r1, r2, r3, r4)) :
    Calls Try.prog 25 #[.agg #[.int .i64 a0_0, .int .i64 a0_1, .int .i64 a0_2, .int .i64 a0_3, .int .i64 a0_4, u5_, u6_, u7_], .int .i64 a1] w fun e w' => e = .returned (.int .i64 r1) ∧ Kd.R (Kd.int .i64) 2 w' w0.heap.size (fun k_ => P5_ k_ ∨ w.heap.size ≤ k_) u5_ r2 ∧ Kd.R (Kd.int .i64) 2 w' w0.heap.size (fun k_ => P6_ k_ ∨ w.heap.size ≤ k_) u6_ r3 ∧ Kd.S (Kd.slice 2 (Kd.int .i64)) 24 w' w0.heap.size (fun k_ => P7_ k_ ∨ w.heap.size ≤ k_) u7_ r4 ∧ Below w0.heap.size w0 w' ∧ Kept w w' (fun k_ => P5_ k_ ∨ P6_ k_ ∨ P7_ k_) := by
  have hu36 := Try.underlying36
  unfold laws_markFrame.f at h
  obtain ⟨⟨m1, l1⟩, A1_, h⟩ := Option.bind_eq_some_iff.mp h
  have HA1 := Aside0.mk A1_
  clear A1_
  obtain ⟨⟨m2, l2⟩, A2_, h⟩ := Option.bind_eq_some_iff.mp h
  have HA2 := Aside0.mk A2_
  clear A2_
  obtain ⟨⟨m3, l3⟩, A3_, h⟩ := Option.bind_eq_some_iff.mp h
  have HA3 := Aside0.mk A3_
  clear A3_
  simp only [Option.some.injEq, Prod.mk.injEq] at h
  obtain ⟨rfl, rfl, rfl, rfl⟩ := h
  have b5 := Kd.R_mono (ok' := fun k_ => P5_ k_ ∧ k_ < w.heap.size) (Kd.R_bound ho5) (fun _ hk => ⟨hk.1, hk.2.2.1⟩)
  obtain ⟨A5, c5, rfl⟩ := Kd.R_slice ho5
  have HO5 := Aside0.mk b5
  clear b5 ho5
  have b6 := Kd.R_mono (ok' := fun k_ => P6_ k_ ∧ k_ < w.heap.size) (Kd.R_bound ho6) (fun _ hk => ⟨hk.1, hk.2.2.1⟩)
  obtain ⟨A6, c6, rfl⟩ := Kd.R_slice ho6
  have HO6 := Aside0.mk b6
  clear b6 ho6
  have b7 := Kd.S_mono (ok' := fun k_ => P7_ k_ ∧ k_ < w.heap.size) (Kd.S_bound ho7) (fun _ hk => ⟨hk.1, hk.2.2.1⟩)
  obtain ⟨A7, c7, rfl⟩ := Kd.S_slice ho7
  have HO7 := Aside0.mk b7
  clear b7 ho7
  have HP5_6 := Aside0.mk h5_6
  clear h5_6
  have HP5_7 := Aside0.mk h5_7
  clear h5_7
  have HP6_7 := Aside0.mk h6_7
  clear h6_7
  have HB := Aside0.mk hB
  clear hB
  go_enter Try.func25, Try.ntmps25
  go_wp2_with (first | ((with_reducible refine gate_dst (N := 2) rfl ?_); refine bev 2 36 #[.int .i64 a0_0, .int .i64 a0_1, .int .i64 a0_2, .int .i64 a0_3, .int .i64 a0_4, .slice A5 l0_5.length c5, .slice A6 l0_6.length c6, .slice A7 l0_7.length c7] ?_; intro gb hg w5 hbox hb; have n5 := Aside0.mk (Kd.R_below HO5.out hb); have n6 := Aside0.mk (Kd.R_below HO6.out hb); have n7 := Aside0.mk (Kd.S_below HO7.out hb); have n_b := Aside0.mk (below_step HB.out hb); have HK := Aside0.mk (Kept.below (S := (fun k_ => P5_ k_ ∨ P6_ k_ ∨ P7_ k_)) (Kept.refl w _) hb); have BK := Aside0.mk hbox; have HG := Aside0.mk hg; clear HO5 HO6 HO7 HB hb hbox hg; have HO5 := n5; have HO6 := n6; have HO7 := n7; have HB := n_b; clear n5 n6 n7 n_b; have hc0 : w5.cell? ⟨gb, 0, none⟩ = some (.int .i64 a0_0) := (blk_cell BK.out 0).trans rfl; have hc1 : w5.cell? ⟨gb, 1, none⟩ = some (.int .i64 a0_1) := (blk_cell BK.out 1).trans rfl; have hc2 : w5.cell? ⟨gb, 2, none⟩ = some (.int .i64 a0_2) := (blk_cell BK.out 2).trans rfl; have hc3 : w5.cell? ⟨gb, 3, none⟩ = some (.int .i64 a0_3) := (blk_cell BK.out 3).trans rfl; have hc4 : w5.cell? ⟨gb, 4, none⟩ = some (.int .i64 a0_4) := (blk_cell BK.out 4).trans rfl; have hc5 : w5.cell? ⟨gb, 5, none⟩ = some (.slice A5 l0_5.length c5) := (blk_cell BK.out 5).trans rfl; have hc6 : w5.cell? ⟨gb, 6, none⟩ = some (.slice A6 l0_6.length c6) := (blk_cell BK.out 6).trans rfl; have hc7 : w5.cell? ⟨gb, 7, none⟩ = some (.slice A7 l0_7.length c7) := (blk_cell BK.out 7).trans rfl; have hf0 := blk_frozen BK.out 0; have hf1 := blk_frozen BK.out 1; have hf2 := blk_frozen BK.out 2; have hf3 := blk_frozen BK.out 3; have hf4 := blk_frozen BK.out 4; have hf5 := blk_frozen BK.out 5; have hf6 := blk_frozen BK.out 6; have hf7 := blk_frozen BK.out 7) | ((with_reducible refine gate_callee (f := 46) rfl ?_); refine goesL_ (some 8) rfl rfl Try.func46 (by kernel_rfl) rfl #[.slice A5 l0_5.length c5, .int .i64 a1] rfl (by (try simp only [List.map_toArray, List.map_cons, List.map_nil]); first | done | rfl) ?_; refine (laws_markInt64S.calls k (fun k_ => P5_ k_ ∧ k_ < w.heap.size) _ l0_5 a1 m1 l1 w0 _ HB.out HO5.out HA1.out).mono ?_; rintro e w7 ⟨rfl, hy, hb, hkp⟩; refine ⟨_, rfl, ?_⟩; have hg := HG.out; have n5 := Aside0.mk (Kd.R_reok rfl hy (fun k_ e_ => HO5.out.1 k_ e_)); have n6 := Aside0.mk (Kd.R_kept HO6.out hkp (fun k_ hk hs => HP5_6.out k_ hs.1 hk.1)); have n7 := Aside0.mk (Kd.S_kept HO7.out hkp (fun k_ hk hs => HP5_7.out k_ hs.1 hk.1)); have n_g := Aside0.mk (blk_kept BK.out hkp (fun hs => by have := hs.2; omega)); have n_k := Aside0.mk (Kept.then_ HK.out hkp (fun k_ hs => .inl (by simp [hs.1]))); have n_b := Aside0.mk hb; clear HO5 HO6 HO7 HB HK BK hb hkp hy hg hc0 hf0 hc1 hf1 hc2 hf2 hc3 hf3 hc4 hf4 hc5 hf5 hc6 hf6 hc7 hf7; have HO5 := n5; have HO6 := n6; have HO7 := n7; have HB := n_b; have HK := n_k; have BK := n_g; clear n5 n6 n7 n_b n_k n_g; have hc0 : w7.cell? ⟨gb, 0, none⟩ = some (.int .i64 a0_0) := (blk_cell BK.out 0).trans rfl; have hc1 : w7.cell? ⟨gb, 1, none⟩ = some (.int .i64 a0_1) := (blk_cell BK.out 1).trans rfl; have hc2 : w7.cell? ⟨gb, 2, none⟩ = some (.int .i64 a0_2) := (blk_cell BK.out 2).trans rfl; have hc3 : w7.cell? ⟨gb, 3, none⟩ = some (.int .i64 a0_3) := (blk_cell BK.out 3).trans rfl; have hc4 : w7.cell? ⟨gb, 4, none⟩ = some (.int .i64 a0_4) := (blk_cell BK.out 4).trans rfl; have hc5 : w7.cell? ⟨gb, 5, none⟩ = some (.slice A5 l0_5.length c5) := (blk_cell BK.out 5).trans rfl; have hc6 : w7.cell? ⟨gb, 6, none⟩ = some (.slice A6 l0_6.length c6) := (blk_cell BK.out 6).trans rfl; have hc7 : w7.cell? ⟨gb, 7, none⟩ = some (.slice A7 l0_7.length c7) := (blk_cell BK.out 7).trans rfl; have hf0 := blk_frozen BK.out 0; have hf1 := blk_frozen BK.out 1; have hf2 := blk_frozen BK.out 2; have hf3 := blk_frozen BK.out 3; have hf4 := blk_frozen BK.out 4; have hf5 := blk_frozen BK.out 5; have hf6 := blk_frozen BK.out 6; have hf7 := blk_frozen BK.out 7) | ((with_reducible refine gate_callee (f := 46) rfl ?_); refine goesL_ (some 12) rfl rfl Try.func46 (by kernel_rfl) rfl #[.slice A6 l0_6.length c6, .int .i64 m1] rfl (by (try simp only [List.map_toArray, List.map_cons, List.map_nil]); first | done | rfl) ?_; refine (laws_markInt64S.calls k (fun k_ => P6_ k_ ∧ k_ < w.heap.size) _ l0_6 m1 m2 l2 w0 _ HB.out HO6.out HA2.out).mono ?_; rintro e w8 ⟨rfl, hy, hb, hkp⟩; refine ⟨_, rfl, ?_⟩; have hg := HG.out; have n5 := Aside0.mk (Kd.R_kept HO5.out hkp (fun k_ hk hs => HP5_6.out k_ hk.1 hs.1)); have n6 := Aside0.mk (Kd.R_reok rfl hy (fun k_ e_ => HO6.out.1 k_ e_)); have n7 := Aside0.mk (Kd.S_kept HO7.out hkp (fun k_ hk hs => HP6_7.out k_ hs.1 hk.1)); have n_g := Aside0.mk (blk_kept BK.out hkp (fun hs => by have := hs.2; omega)); have n_k := Aside0.mk (Kept.then_ HK.out hkp (fun k_ hs => .inl (by simp [hs.1]))); have n_b := Aside0.mk hb; clear HO5 HO6 HO7 HB HK BK hb hkp hy hg hc0 hf0 hc1 hf1 hc2 hf2 hc3 hf3 hc4 hf4 hc5 hf5 hc6 hf6 hc7 hf7; have HO5 := n5; have HO6 := n6; have HO7 := n7; have HB := n_b; have HK := n_k; have BK := n_g; clear n5 n6 n7 n_b n_k n_g; have hc0 : w8.cell? ⟨gb, 0, none⟩ = some (.int .i64 a0_0) := (blk_cell BK.out 0).trans rfl; have hc1 : w8.cell? ⟨gb, 1, none⟩ = some (.int .i64 a0_1) := (blk_cell BK.out 1).trans rfl; have hc2 : w8.cell? ⟨gb, 2, none⟩ = some (.int .i64 a0_2) := (blk_cell BK.out 2).trans rfl; have hc3 : w8.cell? ⟨gb, 3, none⟩ = some (.int .i64 a0_3) := (blk_cell BK.out 3).trans rfl; have hc4 : w8.cell? ⟨gb, 4, none⟩ = some (.int .i64 a0_4) := (blk_cell BK.out 4).trans rfl; have hc5 : w8.cell? ⟨gb, 5, none⟩ = some (.slice A5 l0_5.length c5) := (blk_cell BK.out 5).trans rfl; have hc6 : w8.cell? ⟨gb, 6, none⟩ = some (.slice A6 l0_6.length c6) := (blk_cell BK.out 6).trans rfl; have hc7 : w8.cell? ⟨gb, 7, none⟩ = some (.slice A7 l0_7.length c7) := (blk_cell BK.out 7).trans rfl; have hf0 := blk_frozen BK.out 0; have hf1 := blk_frozen BK.out 1; have hf2 := blk_frozen BK.out 2; have hf3 := blk_frozen BK.out 3; have hf4 := blk_frozen BK.out 4; have hf5 := blk_frozen BK.out 5; have hf6 := blk_frozen BK.out 6; have hf7 := blk_frozen BK.out 7) | ((with_reducible refine gate_callee (f := 82) rfl ?_); refine goesL_ (some 16) rfl rfl Try.func82 (by kernel_rfl) rfl #[.slice A7 l0_7.length c7, .int .i64 m2] rfl (by (try simp only [List.map_toArray, List.map_cons, List.map_nil]); first | done | rfl) ?_; refine (laws_markInt64SS.calls k (fun k_ => P7_ k_ ∧ k_ < w.heap.size) _ l0_7 m2 m3 l3 w0 _ HB.out HO7.out HA3.out).mono ?_; rintro e w9 ⟨rfl, hy, hb, hkp⟩; refine ⟨_, rfl, ?_⟩; have hg := HG.out; have HZ := Aside0.mk HK.out.1; have n5 := Aside0.mk (Kd.R_kept HO5.out hkp (fun k_ hk hs => HP5_7.out k_ hk.1 hs.1)); have n6 := Aside0.mk (Kd.R_kept HO6.out hkp (fun k_ hk hs => HP6_7.out k_ hk.1 hs.1)); have n7 := Aside0.mk hy; have n_g := Aside0.mk (blk_kept BK.out hkp (fun hs => by have := hs.2; omega)); have n_k := Aside0.mk (Kept.then_ HK.out hkp (fun k_ hs => .inl (by simp [hs.1]))); have n_b := Aside0.mk hb; clear HO5 HO6 HO7 HB HK BK hb hkp hy hg hc0 hf0 hc1 hf1 hc2 hf2 hc3 hf3 hc4 hf4 hc5 hf5 hc6 hf6 hc7 hf7; have HO5 := n5; have HO6 := n6; have HO7 := n7; have HB := n_b; have HK := n_k; have BK := n_g; clear n5 n6 n7 n_b n_k n_g; have hc0 : w9.cell? ⟨gb, 0, none⟩ = some (.int .i64 a0_0) := (blk_cell BK.out 0).trans rfl; have hc1 : w9.cell? ⟨gb, 1, none⟩ = some (.int .i64 a0_1) := (blk_cell BK.out 1).trans rfl; have hc2 : w9.cell? ⟨gb, 2, none⟩ = some (.int .i64 a0_2) := (blk_cell BK.out 2).trans rfl; have hc3 : w9.cell? ⟨gb, 3, none⟩ = some (.int .i64 a0_3) := (blk_cell BK.out 3).trans rfl; have hc4 : w9.cell? ⟨gb, 4, none⟩ = some (.int .i64 a0_4) := (blk_cell BK.out 4).trans rfl; have hc5 : w9.cell? ⟨gb, 5, none⟩ = some (.slice A5 l0_5.length c5) := (blk_cell BK.out 5).trans rfl; have hc6 : w9.cell? ⟨gb, 6, none⟩ = some (.slice A6 l0_6.length c6) := (blk_cell BK.out 6).trans rfl; have hc7 : w9.cell? ⟨gb, 7, none⟩ = some (.slice A7 l0_7.length c7) := (blk_cell BK.out 7).trans rfl; have hf0 := blk_frozen BK.out 0; have hf1 := blk_frozen BK.out 1; have hf2 := blk_frozen BK.out 2; have hf3 := blk_frozen BK.out 3; have hf4 := blk_frozen BK.out 4; have hf5 := blk_frozen BK.out 5; have hf6 := blk_frozen BK.out 6; have hf7 := blk_frozen BK.out 7))
  go_ret
  exact ⟨by first | rfl | (simp; done) | simp_all, Kd.R_mono HO5.out (fun k_ hk => .inl hk.1), Kd.R_mono HO6.out (fun k_ hk => .inl hk.1), Kd.S_mono HO7.out (fun k_ hk => hk.elim (fun h_ => .inl h_.1) (fun h_ => .inr (Nat.le_trans HZ.out h_))), HB.out, HK.out⟩

/-! ### spec_l1In: function 96 -/
def spec_l1In.f (a0 : Int) (a1 : Int) (a2 : Int) : Option (Bool) := if a0 ≥ a1 then (some (decide (a0 ≤ a2))) else (some false)
set_option maxHeartbeats 8000000 in
set_option maxRecDepth 100000 in
theorem spec_l1In.calls (a0 : Int) (a1 : Int) (a2 : Int) (r : Bool) (w : World) (h : spec_l1In.f a0 a1 a2 = some r) :
  Calls Try.prog 96 #[.int .i64 a0, .int .i64 a1, .int .i64 a2] w fun e w' => e = .returned (.bool r) ∧ Drawn0 w w' := by
 have H : (if a0 ≥ a1 then (some (decide (a0 ≤ a2))) else (some false)) = some r := h
 clear h
 by_cases c4 : a0 ≥ a1
 ·rw [if_pos c4] at H
  have c4b0 : decide (a1 ≤ a0) = true := decide_eq_true c4
  clear c4
  obtain rfl := Option.some.inj H
  go_enter Try.func96, Try.ntmps96
  go_wp2
  go_ret
  exact dsq
 ·rw [if_neg c4] at H
  have c4b0 : decide (a1 ≤ a0) = false := decide_eq_false c4
  clear c4
  obtain rfl := Option.some.inj H
  go_enter Try.func96, Try.ntmps96
  go_wp2
  go_ret
  exact dsq

/-! ### spec_l14Number: function 104 -/
def spec_l14Number.f (a0 : Int) : Option (Bool) := (spec_l1In.f a0 0 9999).bind fun t143 => (some t143)
set_option maxHeartbeats 8000000 in
set_option maxRecDepth 100000 in
theorem spec_l14Number.calls (a0 : Int) (r : Bool) (w : World) (h : spec_l14Number.f a0 = some r) :
  Calls Try.prog 104 #[.int .i64 a0] w fun e w' => e = .returned (.bool r) ∧ Drawn0 w w' := by
 have H : ((spec_l1In.f a0 0 9999).bind fun t143 => (some t143)) = some r := h
 clear h
 obtain ⟨t143, A2, H⟩ := bnd H
 obtain rfl := Option.some.inj H
 go_enter Try.func104, Try.ntmps104
 go_wp2_with (first | ((with_reducible refine gate_callee (f := 96) rfl ?_); refine gl_ 4 Try.func96 #[.int .i64 a0, .int .i64 0, .int .i64 9999] ?_; (with_reducible refine (spec_l1In.calls a0 0 9999 t143 _ A2.out).mono ?_); rintro e w' ⟨rfl, ⟨nd, rfl⟩⟩; refine ⟨_, rfl, ?_⟩))
 go_ret
 exact dsq

/-! ### spec_l9Rung: function 106 -/
def spec_l9Rung.f (a0 : Int) : Option (Bool) := (spec_l1In.f a0 0 47).bind fun t144 => (some t144)
set_option maxHeartbeats 8000000 in
set_option maxRecDepth 100000 in
theorem spec_l9Rung.calls (a0 : Int) (r : Bool) (w : World) (h : spec_l9Rung.f a0 = some r) :
  Calls Try.prog 106 #[.int .i64 a0] w fun e w' => e = .returned (.bool r) ∧ Drawn0 w w' := by
 have H : ((spec_l1In.f a0 0 47).bind fun t144 => (some t144)) = some r := h
 clear h
 obtain ⟨t144, A2, H⟩ := bnd H
 obtain rfl := Option.some.inj H
 go_enter Try.func106, Try.ntmps106
 go_wp2_with (first | ((with_reducible refine gate_callee (f := 96) rfl ?_); refine gl_ 4 Try.func96 #[.int .i64 a0, .int .i64 0, .int .i64 47] ?_; (with_reducible refine (spec_l1In.calls a0 0 47 t144 _ A2.out).mono ?_); rintro e w' ⟨rfl, ⟨nd, rfl⟩⟩; refine ⟨_, rfl, ?_⟩))
 go_ret
 exact dsq

/-! ### spec_l10Spread: function 107 -/
def spec_l10Spread.f (a0 : Int) : Option (Bool) := (spec_l1In.f a0 0 2).bind fun t145 => (some t145)
set_option maxHeartbeats 8000000 in
set_option maxRecDepth 100000 in
theorem spec_l10Spread.calls (a0 : Int) (r : Bool) (w : World) (h : spec_l10Spread.f a0 = some r) :
  Calls Try.prog 107 #[.int .i64 a0] w fun e w' => e = .returned (.bool r) ∧ Drawn0 w w' := by
 have H : ((spec_l1In.f a0 0 2).bind fun t145 => (some t145)) = some r := h
 clear h
 obtain ⟨t145, A2, H⟩ := bnd H
 obtain rfl := Option.some.inj H
 go_enter Try.func107, Try.ntmps107
 go_wp2_with (first | ((with_reducible refine gate_callee (f := 96) rfl ?_); refine gl_ 4 Try.func96 #[.int .i64 a0, .int .i64 0, .int .i64 2] ?_; (with_reducible refine (spec_l1In.calls a0 0 2 t145 _ A2.out).mono ?_); rintro e w' ⟨rfl, ⟨nd, rfl⟩⟩; refine ⟨_, rfl, ?_⟩))
 go_ret
 exact dsq

/-! ### spec_SizeFault: function 132 -/
def spec_SizeFault.f (a0 : Int) : Option (Int) := if a0 = 4 then (some 0) else (if a0 = 8 then (some 0) else (if a0 = 16 then (some 0) else (some 3)))
set_option maxHeartbeats 8000000 in
set_option maxRecDepth 100000 in
theorem spec_SizeFault.calls (a0 : Int) (r : Int) (w : World) (h : spec_SizeFault.f a0 = some r) :
  Calls Try.prog 132 #[.int .i64 a0] w fun e w' => e = .returned (.int .i64 r) ∧ Drawn0 w w' := by
 have H : (if a0 = 4 then (some 0) else (if a0 = 8 then (some 0) else (if a0 = 16 then (some 0) else (some 3)))) = some r := h
 clear h
 by_cases c2 : a0 = 4
 ·rw [if_pos c2] at H
  have c2b0 : (a0 == 4) = true := beq_iff_eq.mpr c2
  have c2b1 : (a0 != 4) = false := bne_eq_false_iff_eq.mpr c2
  clear c2
  obtain rfl := Option.some.inj H
  go_enter Try.func132, Try.ntmps132
  go_wp2
  go_ret
  exact dsq
 ·rw [if_neg c2] at H
  have c2b0 : (a0 == 4) = false := beq_eq_false_iff_ne.mpr c2
  have c2b1 : (a0 != 4) = true := bne_iff_ne.mpr c2
  by_cases c3 : a0 = 8
  ·rw [if_pos c3] at H
   have c3b0 : (a0 == 8) = true := beq_iff_eq.mpr c3
   have c3b1 : (a0 != 8) = false := bne_eq_false_iff_eq.mpr c3
   clear c3
   obtain rfl := Option.some.inj H
   go_enter Try.func132, Try.ntmps132
   go_wp2
   go_ret
   exact dsq
  ·rw [if_neg c3] at H
   have c3b0 : (a0 == 8) = false := beq_eq_false_iff_ne.mpr c3
   have c3b1 : (a0 != 8) = true := bne_iff_ne.mpr c3
   by_cases c4 : a0 = 16
   ·rw [if_pos c4] at H
    have c4b0 : (a0 == 16) = true := beq_iff_eq.mpr c4
    have c4b1 : (a0 != 16) = false := bne_eq_false_iff_eq.mpr c4
    clear c4
    obtain rfl := Option.some.inj H
    go_enter Try.func132, Try.ntmps132
    go_wp2
    go_ret
    exact dsq
   ·rw [if_neg c4] at H
    have c4b0 : (a0 == 16) = false := beq_eq_false_iff_ne.mpr c4
    have c4b1 : (a0 != 16) = true := bne_iff_ne.mpr c4
    obtain rfl := Option.some.inj H
    go_enter Try.func132, Try.ntmps132
    go_wp2
    go_ret
    exact dsq

/-! ### spec_l13Is: function 191 -/
def spec_l13Is.f (a0 : Int) : Option (Bool) := (spec_l1In.f a0 0 3).bind fun t146 => (some t146)
set_option maxHeartbeats 8000000 in
set_option maxRecDepth 100000 in
theorem spec_l13Is.calls (a0 : Int) (r : Bool) (w : World) (h : spec_l13Is.f a0 = some r) :
  Calls Try.prog 191 #[.int .i64 a0] w fun e w' => e = .returned (.bool r) ∧ Drawn0 w w' := by
 have H : ((spec_l1In.f a0 0 3).bind fun t146 => (some t146)) = some r := h
 clear h
 obtain ⟨t146, A2, H⟩ := bnd H
 obtain rfl := Option.some.inj H
 go_enter Try.func191, Try.ntmps191
 go_wp2_with (first | ((with_reducible refine gate_callee (f := 96) rfl ?_); refine gl_ 4 Try.func96 #[.int .i64 a0, .int .i64 0, .int .i64 3] ?_; (with_reducible refine (spec_l1In.calls a0 0 3 t146 _ A2.out).mono ?_); rintro e w' ⟨rfl, ⟨nd, rfl⟩⟩; refine ⟨_, rfl, ?_⟩))
 go_ret
 exact dsq

/-! ### spec_l14Head: function 144 -/
def spec_l14Head.f (a0 : Int) (a1 : Int) (a2 : Int) (a3 : Int) (a4 : Int) : Option (Int) := (spec_l14Number.f a0).bind fun t147 => (if t147 = true then ((spec_SizeFault.f a1).bind fun t148 => (if t148 = 0 then ((spec_l9Rung.f a2).bind fun t149 => (if t149 = true then ((spec_l13Is.f a3).bind fun t150 => (if t150 = true then ((spec_l10Spread.f a4).bind fun t151 => (if t151 = true then (some 0) else (some 3))) else (some 3))) else (some 3))) else (some t148))) else (some 3))
set_option maxHeartbeats 8000000 in
set_option maxRecDepth 100000 in
theorem spec_l14Head.calls (a0 : Int) (a1 : Int) (a2 : Int) (a3 : Int) (a4 : Int) (r : Int) (w : World) (h : spec_l14Head.f a0 a1 a2 a3 a4 = some r) :
  Calls Try.prog 144 #[.int .i64 a0, .int .i64 a1, .int .i64 a2, .int .i64 a3, .int .i64 a4] w fun e w' => e = .returned (.int .i64 r) ∧ Drawn0 w w' := by
 have H : ((spec_l14Number.f a0).bind fun t147 => (if t147 = true then ((spec_SizeFault.f a1).bind fun t148 => (if t148 = 0 then ((spec_l9Rung.f a2).bind fun t149 => (if t149 = true then ((spec_l13Is.f a3).bind fun t150 => (if t150 = true then ((spec_l10Spread.f a4).bind fun t151 => (if t151 = true then (some 0) else (some 3))) else (some 3))) else (some 3))) else (some t148))) else (some 3))) = some r := h
 clear h
 obtain ⟨t147, A6, H⟩ := bnd H
 by_cases c7 : t147 = true
 ·subst c7
  replace H : ((spec_SizeFault.f a1).bind fun t148 => (if t148 = 0 then ((spec_l9Rung.f a2).bind fun t149 => (if t149 = true then ((spec_l13Is.f a3).bind fun t150 => (if t150 = true then ((spec_l10Spread.f a4).bind fun t151 => (if t151 = true then (some 0) else (some 3))) else (some 3))) else (some 3))) else (some t148))) = some r := by rw [if_pos rfl] at H; exact H
  obtain ⟨t148, A8, H⟩ := bnd H
  by_cases c9 : t148 = 0
  ·rw [if_pos c9] at H
   have c9b0 : (t148 == 0) = true := beq_iff_eq.mpr c9
   have c9b1 : (t148 != 0) = false := bne_eq_false_iff_eq.mpr c9
   clear c9
   obtain ⟨t149, A10, H⟩ := bnd H
   by_cases c11 : t149 = true
   ·subst c11
    replace H : ((spec_l13Is.f a3).bind fun t150 => (if t150 = true then ((spec_l10Spread.f a4).bind fun t151 => (if t151 = true then (some 0) else (some 3))) else (some 3))) = some r := by rw [if_pos rfl] at H; exact H
    obtain ⟨t150, A12, H⟩ := bnd H
    by_cases c13 : t150 = true
    ·subst c13
     replace H : ((spec_l10Spread.f a4).bind fun t151 => (if t151 = true then (some 0) else (some 3))) = some r := by rw [if_pos rfl] at H; exact H
     obtain ⟨t151, A14, H⟩ := bnd H
     by_cases c15 : t151 = true
     ·subst c15
      replace H : (some 0) = some r := by rw [if_pos rfl] at H; exact H
      obtain rfl := Option.some.inj H
      go_enter Try.func144, Try.ntmps144
      go_wp2_with (first | ((with_reducible refine gate_callee (f := 104) rfl ?_); refine gl_ 13 Try.func104 #[.int .i64 a0] ?_; (with_reducible refine (spec_l14Number.calls a0 true _ A6.out).mono ?_); rintro e w' ⟨rfl, ⟨nd, rfl⟩⟩; refine ⟨_, rfl, ?_⟩) | ((with_reducible refine gate_callee (f := 132) rfl ?_); refine gl_ 16 Try.func132 #[.int .i64 a1] ?_; (with_reducible refine (spec_SizeFault.calls a1 t148 _ A8.out).mono ?_); rintro e w' ⟨rfl, ⟨nd, rfl⟩⟩; refine ⟨_, rfl, ?_⟩) | ((with_reducible refine gate_callee (f := 106) rfl ?_); refine gl_ 21 Try.func106 #[.int .i64 a2] ?_; (with_reducible refine (spec_l9Rung.calls a2 true _ A10.out).mono ?_); rintro e w' ⟨rfl, ⟨nd, rfl⟩⟩; refine ⟨_, rfl, ?_⟩) | (go_at_call 191; (with_reducible refine (spec_l13Is.calls a3 true _ A12.out).mono ?_); rintro e w' ⟨rfl, ⟨nd, rfl⟩⟩) | (go_at_call 107; (with_reducible refine (spec_l10Spread.calls a4 true _ A14.out).mono ?_); rintro e w' ⟨rfl, ⟨nd, rfl⟩⟩))
      go_ret
      exact dsq
     ·replace c15 := Bool.eq_false_iff.mpr c15
      subst c15
      replace H : (some 3) = some r := by rw [if_neg (show ¬ (false = true) by decide)] at H; exact H
      obtain rfl := Option.some.inj H
      go_enter Try.func144, Try.ntmps144
      go_wp2_with (first | ((with_reducible refine gate_callee (f := 104) rfl ?_); refine gl_ 13 Try.func104 #[.int .i64 a0] ?_; (with_reducible refine (spec_l14Number.calls a0 true _ A6.out).mono ?_); rintro e w' ⟨rfl, ⟨nd, rfl⟩⟩; refine ⟨_, rfl, ?_⟩) | ((with_reducible refine gate_callee (f := 132) rfl ?_); refine gl_ 16 Try.func132 #[.int .i64 a1] ?_; (with_reducible refine (spec_SizeFault.calls a1 t148 _ A8.out).mono ?_); rintro e w' ⟨rfl, ⟨nd, rfl⟩⟩; refine ⟨_, rfl, ?_⟩) | ((with_reducible refine gate_callee (f := 106) rfl ?_); refine gl_ 21 Try.func106 #[.int .i64 a2] ?_; (with_reducible refine (spec_l9Rung.calls a2 true _ A10.out).mono ?_); rintro e w' ⟨rfl, ⟨nd, rfl⟩⟩; refine ⟨_, rfl, ?_⟩) | (go_at_call 191; (with_reducible refine (spec_l13Is.calls a3 true _ A12.out).mono ?_); rintro e w' ⟨rfl, ⟨nd, rfl⟩⟩) | (go_at_call 107; (with_reducible refine (spec_l10Spread.calls a4 false _ A14.out).mono ?_); rintro e w' ⟨rfl, ⟨nd, rfl⟩⟩))
      go_ret
      exact dsq
    ·replace c13 := Bool.eq_false_iff.mpr c13
     subst c13
     replace H : (some 3) = some r := by rw [if_neg (show ¬ (false = true) by decide)] at H; exact H
     obtain rfl := Option.some.inj H
     go_enter Try.func144, Try.ntmps144
     go_wp2_with (first | ((with_reducible refine gate_callee (f := 104) rfl ?_); refine gl_ 13 Try.func104 #[.int .i64 a0] ?_; (with_reducible refine (spec_l14Number.calls a0 true _ A6.out).mono ?_); rintro e w' ⟨rfl, ⟨nd, rfl⟩⟩; refine ⟨_, rfl, ?_⟩) | ((with_reducible refine gate_callee (f := 132) rfl ?_); refine gl_ 16 Try.func132 #[.int .i64 a1] ?_; (with_reducible refine (spec_SizeFault.calls a1 t148 _ A8.out).mono ?_); rintro e w' ⟨rfl, ⟨nd, rfl⟩⟩; refine ⟨_, rfl, ?_⟩) | ((with_reducible refine gate_callee (f := 106) rfl ?_); refine gl_ 21 Try.func106 #[.int .i64 a2] ?_; (with_reducible refine (spec_l9Rung.calls a2 true _ A10.out).mono ?_); rintro e w' ⟨rfl, ⟨nd, rfl⟩⟩; refine ⟨_, rfl, ?_⟩) | (go_at_call 191; (with_reducible refine (spec_l13Is.calls a3 false _ A12.out).mono ?_); rintro e w' ⟨rfl, ⟨nd, rfl⟩⟩))
     go_ret
     exact dsq
   ·replace c11 := Bool.eq_false_iff.mpr c11
    subst c11
    replace H : (some 3) = some r := by rw [if_neg (show ¬ (false = true) by decide)] at H; exact H
    obtain rfl := Option.some.inj H
    go_enter Try.func144, Try.ntmps144
    go_wp2_with (first | ((with_reducible refine gate_callee (f := 104) rfl ?_); refine gl_ 13 Try.func104 #[.int .i64 a0] ?_; (with_reducible refine (spec_l14Number.calls a0 true _ A6.out).mono ?_); rintro e w' ⟨rfl, ⟨nd, rfl⟩⟩; refine ⟨_, rfl, ?_⟩) | ((with_reducible refine gate_callee (f := 132) rfl ?_); refine gl_ 16 Try.func132 #[.int .i64 a1] ?_; (with_reducible refine (spec_SizeFault.calls a1 t148 _ A8.out).mono ?_); rintro e w' ⟨rfl, ⟨nd, rfl⟩⟩; refine ⟨_, rfl, ?_⟩) | ((with_reducible refine gate_callee (f := 106) rfl ?_); refine gl_ 21 Try.func106 #[.int .i64 a2] ?_; (with_reducible refine (spec_l9Rung.calls a2 false _ A10.out).mono ?_); rintro e w' ⟨rfl, ⟨nd, rfl⟩⟩; refine ⟨_, rfl, ?_⟩))
    go_ret
    exact dsq
  ·rw [if_neg c9] at H
   have c9b0 : (t148 == 0) = false := beq_eq_false_iff_ne.mpr c9
   have c9b1 : (t148 != 0) = true := bne_iff_ne.mpr c9
   obtain rfl := Option.some.inj H
   go_enter Try.func144, Try.ntmps144
   go_wp2_with (first | ((with_reducible refine gate_callee (f := 104) rfl ?_); refine gl_ 13 Try.func104 #[.int .i64 a0] ?_; (with_reducible refine (spec_l14Number.calls a0 true _ A6.out).mono ?_); rintro e w' ⟨rfl, ⟨nd, rfl⟩⟩; refine ⟨_, rfl, ?_⟩) | ((with_reducible refine gate_callee (f := 132) rfl ?_); refine gl_ 16 Try.func132 #[.int .i64 a1] ?_; (with_reducible refine (spec_SizeFault.calls a1 t148 _ A8.out).mono ?_); rintro e w' ⟨rfl, ⟨nd, rfl⟩⟩; refine ⟨_, rfl, ?_⟩))
   go_ret
   exact dsq
 ·replace c7 := Bool.eq_false_iff.mpr c7
  subst c7
  replace H : (some 3) = some r := by rw [if_neg (show ¬ (false = true) by decide)] at H; exact H
  obtain rfl := Option.some.inj H
  go_enter Try.func144, Try.ntmps144
  go_wp2_with (first | ((with_reducible refine gate_callee (f := 104) rfl ?_); refine gl_ 13 Try.func104 #[.int .i64 a0] ?_; (with_reducible refine (spec_l14Number.calls a0 false _ A6.out).mono ?_); rintro e w' ⟨rfl, ⟨nd, rfl⟩⟩; refine ⟨_, rfl, ?_⟩))
  go_ret
  exact dsq

/-! ### spec_l13Bands: function 145 -/
def spec_l13Bands.f (a0 : Int) : Option ((List (S93))) := if a0 = 4 then (some (([(⟨2, 2⟩ : S93)] : List (S93)))) else (if a0 = 8 then (some (([(⟨4, 2⟩ : S93), (⟨6, 2⟩ : S93)] : List (S93)))) else (some (([(⟨8, 4⟩ : S93), (⟨12, 4⟩ : S93)] : List (S93)))))
set_option maxHeartbeats 8000000 in
set_option maxRecDepth 100000 in
theorem spec_l13Bands.calls (a0 : Int) (r : List (S93)) (w : World) (h : spec_l13Bands.f a0 = some r) :
  Calls Try.prog 145 #[.int .i64 a0] w fun e w' => ∃ v0_ : Value, e = .returned (v0_) ∧ Kd.R k93 93 w' w.heap.size (fun _ => True) v0_ r ∧ Below w.heap.size w w' := by
 have hu93 := Try.underlying93
 have HB := Aside0.mk (Below.refl w.heap.size w)
 have H : (if a0 = 4 then (some (([(⟨2, 2⟩ : S93)] : List (S93)))) else (if a0 = 8 then (some (([(⟨4, 2⟩ : S93), (⟨6, 2⟩ : S93)] : List (S93)))) else (some (([(⟨8, 4⟩ : S93), (⟨12, 4⟩ : S93)] : List (S93)))))) = some r := h
 clear h
 by_cases c2 : a0 = 4
 ·rw [if_pos c2] at H
  have c2b0 : (a0 == 4) = true := beq_iff_eq.mpr c2
  have c2b1 : (a0 != 4) = false := bne_eq_false_iff_eq.mpr c2
  clear c2
  obtain ⟨y152, hy152⟩ : ∃ y_ : List (S93), y_ = (([(⟨2, 2⟩ : S93)] : List (S93))) := ⟨_, rfl⟩
  replace H : (some y152) = some r := by first | (rw [hy152]; with_reducible exact H) | (have H2_ := (Option.bind_some _ _).symm.trans H; rw [hy152]; with_reducible exact H2_) | (have H2_ := (Option.bind_some _ _).symm.trans H; with_reducible exact H2_) | with_reducible exact H | (rw [hy152]; exact H) | exact H
  have Ny152 := Aside0.mk hy152
  clear hy152
  obtain rfl := Option.some.inj H
  go_enter Try.func145, Try.ntmps145
  go_wp2_with (first | ((with_reducible refine gate_dst (N := 7) rfl ?_); refine Kd.R_lit k93 _ 93 ?hg (N := 7) ?hd (xs := ([(⟨2, 2⟩ : S93)] : List (S93))) (inner := [.int .i64 2, .int .i64 2]) (ok := fun _ => True) (okp := fun _ => True) ?hr ?hp (fun _ hk => hk) trivial (Below.refl _ _) (Nat.le_refl _) (by simp) ?_; (case hd => rfl); (case hg => rfl); (case hr => first | (go_simp; done) | (go_simp; rfl)); (case hp => exact (Reps.c2 (show Kd.M k93 _ _ _ (⟨2, 2⟩ : S93) [.int .i64 2, .int .i64 2] from (k93_mkM _ _ _ (⟨2, 2⟩ : S93) )) (Reps.none _ _))); intro v153 w3 ho4 hb hg_ hnew_; clear hg_ hnew_; (first | rw [← Ny152.out] at ho4 | (simp only [Int.reduceToNat] at ho4; rw [← Ny152.out] at ho4)); have HO154 := rlw ho4; replace HB := hbs hb; clear hb ho4))
  go_ret
  exact ⟨_, enq, HO154.out, bnw⟩
 ·rw [if_neg c2] at H
  have c2b0 : (a0 == 4) = false := beq_eq_false_iff_ne.mpr c2
  have c2b1 : (a0 != 4) = true := bne_iff_ne.mpr c2
  by_cases c5 : a0 = 8
  ·rw [if_pos c5] at H
   have c5b0 : (a0 == 8) = true := beq_iff_eq.mpr c5
   have c5b1 : (a0 != 8) = false := bne_eq_false_iff_eq.mpr c5
   clear c5
   obtain ⟨y155, hy155⟩ : ∃ y_ : List (S93), y_ = (([(⟨4, 2⟩ : S93), (⟨6, 2⟩ : S93)] : List (S93))) := ⟨_, rfl⟩
   replace H : (some y155) = some r := by first | (rw [hy155]; with_reducible exact H) | (have H2_ := (Option.bind_some _ _).symm.trans H; rw [hy155]; with_reducible exact H2_) | (have H2_ := (Option.bind_some _ _).symm.trans H; with_reducible exact H2_) | with_reducible exact H | (rw [hy155]; exact H) | exact H
   have Ny155 := Aside0.mk hy155
   clear hy155
   obtain rfl := Option.some.inj H
   go_enter Try.func145, Try.ntmps145
   go_wp2_with (first | ((with_reducible refine gate_dst (N := 12) rfl ?_); refine Kd.R_lit k93 _ 93 ?hg (N := 12) ?hd (xs := ([(⟨4, 2⟩ : S93), (⟨6, 2⟩ : S93)] : List (S93))) (inner := [.int .i64 4, .int .i64 2, .int .i64 6, .int .i64 2]) (ok := fun _ => True) (okp := fun _ => True) ?hr ?hp (fun _ hk => hk) trivial (Below.refl _ _) (Nat.le_refl _) (by simp) ?_; (case hd => rfl); (case hg => rfl); (case hr => first | (go_simp; done) | (go_simp; rfl)); (case hp => exact (Reps.c2 (show Kd.M k93 _ _ _ (⟨4, 2⟩ : S93) [.int .i64 4, .int .i64 2] from (k93_mkM _ _ _ (⟨4, 2⟩ : S93) )) (Reps.c2 (show Kd.M k93 _ _ _ (⟨6, 2⟩ : S93) [.int .i64 6, .int .i64 2] from (k93_mkM _ _ _ (⟨6, 2⟩ : S93) )) (Reps.none _ _)))); intro v156 w6 ho7 hb hg_ hnew_; clear hg_ hnew_; (first | rw [← Ny155.out] at ho7 | (simp only [Int.reduceToNat] at ho7; rw [← Ny155.out] at ho7)); have HO157 := rlw ho7; replace HB := hbs hb; clear hb ho7))
   go_ret
   exact ⟨_, enq, HO157.out, bnw⟩
  ·rw [if_neg c5] at H
   have c5b0 : (a0 == 8) = false := beq_eq_false_iff_ne.mpr c5
   have c5b1 : (a0 != 8) = true := bne_iff_ne.mpr c5
   obtain ⟨y158, hy158⟩ : ∃ y_ : List (S93), y_ = (([(⟨8, 4⟩ : S93), (⟨12, 4⟩ : S93)] : List (S93))) := ⟨_, rfl⟩
   replace H : (some y158) = some r := by first | (rw [hy158]; with_reducible exact H) | (have H2_ := (Option.bind_some _ _).symm.trans H; rw [hy158]; with_reducible exact H2_) | (have H2_ := (Option.bind_some _ _).symm.trans H; with_reducible exact H2_) | with_reducible exact H | (rw [hy158]; exact H) | exact H
   have Ny158 := Aside0.mk hy158
   clear hy158
   obtain rfl := Option.some.inj H
   go_enter Try.func145, Try.ntmps145
   go_wp2_with (first | ((with_reducible refine gate_dst (N := 15) rfl ?_); refine Kd.R_lit k93 _ 93 ?hg (N := 15) ?hd (xs := ([(⟨8, 4⟩ : S93), (⟨12, 4⟩ : S93)] : List (S93))) (inner := [.int .i64 8, .int .i64 4, .int .i64 12, .int .i64 4]) (ok := fun _ => True) (okp := fun _ => True) ?hr ?hp (fun _ hk => hk) trivial (Below.refl _ _) (Nat.le_refl _) (by simp) ?_; (case hd => rfl); (case hg => rfl); (case hr => first | (go_simp; done) | (go_simp; rfl)); (case hp => exact (Reps.c2 (show Kd.M k93 _ _ _ (⟨8, 4⟩ : S93) [.int .i64 8, .int .i64 4] from (k93_mkM _ _ _ (⟨8, 4⟩ : S93) )) (Reps.c2 (show Kd.M k93 _ _ _ (⟨12, 4⟩ : S93) [.int .i64 12, .int .i64 4] from (k93_mkM _ _ _ (⟨12, 4⟩ : S93) )) (Reps.none _ _)))); intro v159 w8 ho9 hb hg_ hnew_; clear hg_ hnew_; (first | rw [← Ny158.out] at ho9 | (simp only [Int.reduceToNat] at ho9; rw [← Ny158.out] at ho9)); have HO160 := rlw ho9; replace HB := hbs hb; clear hb ho9))
   go_ret
   exact ⟨_, enq, HO160.out, bnw⟩

/-! ### spec_l10Index: function 146 -/
def spec_l10Index.f (a0 : Int) : Option (Bool) := (spec_l1In.f a0 (-30000) 30000).bind fun t161 => (some t161)
set_option maxHeartbeats 8000000 in
set_option maxRecDepth 100000 in
theorem spec_l10Index.calls (a0 : Int) (r : Bool) (w : World) (h : spec_l10Index.f a0 = some r) :
  Calls Try.prog 146 #[.int .i64 a0] w fun e w' => e = .returned (.bool r) ∧ Drawn0 w w' := by
 have H : ((spec_l1In.f a0 (-30000) 30000).bind fun t161 => (some t161)) = some r := h
 clear h
 obtain ⟨t161, A2, H⟩ := bnd H
 obtain rfl := Option.some.inj H
 go_enter Try.func146, Try.ntmps146
 go_wp2_with (first | ((with_reducible refine gate_callee (f := 96) rfl ?_); refine gl_ 4 Try.func96 #[.int .i64 a0, .int .i64 (-30000), .int .i64 30000] ?_; (with_reducible refine (spec_l1In.calls a0 (-30000) 30000 t161 _ A2.out).mono ?_); rintro e w' ⟨rfl, ⟨nd, rfl⟩⟩; refine ⟨_, rfl, ?_⟩))
 go_ret
 exact dsq

/-! ### spec_l4Two: function 195 -/
def spec_l4Two.l0 : Nat → Int → Int → Option (Int)
 | 0, _, _ => none
 | k + 1, x0, x3 => if x0 > 0 then (spec_l4Two.l0 k (wrap64 (x0 - 1)) (wrap64 (x3 * 2))) else (some x3)
def spec_l4Two.f (k : Nat) (a0 : Int) : Option (Int) := spec_l4Two.l0 k a0 1
theorem spec_l4Two.mono_l : ∀ k, (∀ y0 y1, LeO (spec_l4Two.l0 k y0 y1) (spec_l4Two.l0 (k + 1) y0 y1))
 | 0 => fun _ _ r h => by simp [spec_l4Two.l0] at h
 | k + 1 => by
  have ih0 := spec_l4Two.mono_l k
  ·intro y0 y1
   unfold spec_l4Two.l0
   repeat' first
   | (with_reducible exact ih0 _ _)
   | (with_reducible exact LeO.refl _)
   | (with_reducible exact LeO.none _)
   | (with_reducible refine LeO.ite ?_ ?_)
   | (with_reducible refine LeO.bind ?_ (fun _ => ?_))
   | exact ih0 _ _
   | exact LeO.none _
   | refine LeO.ite ?_ ?_
   | refine LeO.bind ?_ (fun _ => ?_)
theorem spec_l4Two.mono : ∀ a0 k, LeO (spec_l4Two.f k a0) (spec_l4Two.f (k + 1) a0) := by
 intro a0 k
 have ih0 := spec_l4Two.mono_l k
 unfold spec_l4Two.f
 repeat' first
   | (with_reducible exact ih0 _ _)
   | (with_reducible exact LeO.refl _)
   | (with_reducible exact LeO.none _)
   | (with_reducible refine LeO.ite ?_ ?_)
   | (with_reducible refine LeO.bind ?_ (fun _ => ?_))
   | exact ih0 _ _
   | exact LeO.none _
   | refine LeO.ite ?_ ?_
   | refine LeO.bind ?_ (fun _ => ?_)
set_option maxHeartbeats 8000000 in
set_option maxRecDepth 100000 in
theorem spec_l4Two.calls (k : Nat) (a0 : Int) (r : Int) (w : World) (h : spec_l4Two.f k a0 = some r) :
  Calls Try.prog 195 #[.int .i64 a0] w fun e w' => e = .returned (.int .i64 r) ∧ Drawn0 w w' := by
 have H : (spec_l4Two.l0 k a0 1) = some r := h
 clear h
 have H' := Aside0.mk H
 clear H
 go_enter Try.func195, Try.ntmps195
 go_wp2
 go_loopg [0, 3] k (fun kq v0 v3 w' => ∃ (x0_1 : Int) (x3_1 : Int), v0 = .int .i64 x0_1 ∧ v3 = .int .i64 x3_1 ∧ Aside0 (spec_l4Two.l0 kq x0_1 x3_1 = some r) ∧ Aside0 (kq ≤ k) ∧ Drawn0 w w')
 case atStart => exact ⟨(a0), (1), rq, rq, H', ⟨Nat.le_refl _⟩, by repeat (first | exact Drawn0.refl _ | apply Drawn0.step)⟩
 case round =>
  clear H'
  try clear c1
  obtain ⟨x0_1, x3_1, rfl, rfl, HA, HK1, ⟨m1, rfl⟩⟩ := hrel
  cases gk with
  | zero => exact absurd HA.out (by simp [spec_l4Two.l0])
  | succ k1 =>
   have H := HA.out
   clear HA
   simp only [spec_l4Two.l0] at H
   by_cases c2 : x0_1 > 0
   ·rw [if_pos c2] at H
    have c2b0 : decide (0 < x0_1) = true := decide_eq_true c2
    clear c2
    have H' := Aside0.mk H
    clear H
    go_wp2
    go_roundg k1
    case measure => have := HK1.out; omega
    case rel => exact ⟨(wrap64 (x0_1 - 1)), (wrap64 (x3_1 * 2)), rq, rq, H', ⟨by have := HK1.out; omega⟩, by repeat (first | exact Drawn0.refl _ | apply Drawn0.step)⟩
   ·rw [if_neg c2] at H
    have c2b0 : decide (0 < x0_1) = false := decide_eq_false c2
    clear c2
    obtain rfl := Option.some.inj H
    go_wp2
    go_ret
    exact dsq

/-! ### spec_l9Step: function 151 -/
def spec_l9Step.f (k : Nat) (a0 : Int) : Option (Int) := if a0 = 0 then (some 1) else (if (Int.tmod a0 2) = 1 then ((spec_l4Two.f k (wrap64 (Int.tdiv (wrap64 (a0 + 1)) 2))).bind fun t162 => (some t162)) else ((spec_l4Two.f k (wrap64 ((wrap64 (Int.tdiv a0 2)) - 1))).bind fun t163 => (some (wrap64 (3 * t163)))))
theorem spec_l9Step.mono : ∀ a0 k, LeO (spec_l9Step.f k a0) (spec_l9Step.f (k + 1) a0) := by
 intro a0 k
 unfold spec_l9Step.f
 repeat' first
   | (with_reducible exact spec_l4Two.mono _ _)
   | (with_reducible exact LeO.refl _)
   | (with_reducible exact LeO.none _)
   | (with_reducible refine LeO.ite ?_ ?_)
   | (with_reducible refine LeO.bind ?_ (fun _ => ?_))
   | exact spec_l4Two.mono _ _
   | exact LeO.none _
   | refine LeO.ite ?_ ?_
   | refine LeO.bind ?_ (fun _ => ?_)
set_option maxHeartbeats 8000000 in
set_option maxRecDepth 100000 in
theorem spec_l9Step.calls (k : Nat) (a0 : Int) (r : Int) (w : World) (h : spec_l9Step.f k a0 = some r) :
  Calls Try.prog 151 #[.int .i64 a0] w fun e w' => e = .returned (.int .i64 r) ∧ Drawn0 w w' := by
 have H : (if a0 = 0 then (some 1) else (if (Int.tmod a0 2) = 1 then ((spec_l4Two.f k (wrap64 (Int.tdiv (wrap64 (a0 + 1)) 2))).bind fun t162 => (some t162)) else ((spec_l4Two.f k (wrap64 ((wrap64 (Int.tdiv a0 2)) - 1))).bind fun t163 => (some (wrap64 (3 * t163)))))) = some r := h
 clear h
 by_cases c2 : a0 = 0
 ·rw [if_pos c2] at H
  have c2b0 : (a0 == 0) = true := beq_iff_eq.mpr c2
  have c2b1 : (a0 != 0) = false := bne_eq_false_iff_eq.mpr c2
  clear c2
  obtain rfl := Option.some.inj H
  go_enter Try.func151, Try.ntmps151
  go_wp2
  go_ret
  exact dsq
 ·rw [if_neg c2] at H
  have c2b0 : (a0 == 0) = false := beq_eq_false_iff_ne.mpr c2
  have c2b1 : (a0 != 0) = true := bne_iff_ne.mpr c2
  by_cases c3 : (Int.tmod a0 2) = 1
  ·rw [if_pos c3] at H
   have c3b0 : ((Int.tmod a0 2) == 1) = true := beq_iff_eq.mpr c3
   have c3b1 : ((Int.tmod a0 2) != 1) = false := bne_eq_false_iff_eq.mpr c3
   clear c3
   obtain ⟨t162, A4, H⟩ := bnd H
   obtain rfl := Option.some.inj H
   go_enter Try.func151, Try.ntmps151
   go_wp2_with (first | ((with_reducible refine gate_callee (f := 195) rfl ?_); refine gl_ 13 Try.func195 #[.int .i64 (wrap64 (Int.tdiv (wrap64 (a0 + 1)) 2))] ?_; (with_reducible refine (spec_l4Two.calls k (wrap64 (Int.tdiv (wrap64 (a0 + 1)) 2)) t162 _ A4.out).mono ?_); rintro e w' ⟨rfl, ⟨nd, rfl⟩⟩; refine ⟨_, rfl, ?_⟩))
   go_ret
   exact dsq
  ·rw [if_neg c3] at H
   have c3b0 : ((Int.tmod a0 2) == 1) = false := beq_eq_false_iff_ne.mpr c3
   have c3b1 : ((Int.tmod a0 2) != 1) = true := bne_iff_ne.mpr c3
   obtain ⟨t163, A5, H⟩ := bnd H
   obtain rfl := Option.some.inj H
   go_enter Try.func151, Try.ntmps151
   go_wp2_with (first | ((with_reducible refine gate_callee (f := 195) rfl ?_); refine gl_ 17 Try.func195 #[.int .i64 (wrap64 ((wrap64 (Int.tdiv a0 2)) - 1))] ?_; (with_reducible refine (spec_l4Two.calls k (wrap64 ((wrap64 (Int.tdiv a0 2)) - 1)) t163 _ A5.out).mono ?_); rintro e w' ⟨rfl, ⟨nd, rfl⟩⟩; refine ⟨_, rfl, ?_⟩))
   go_ret
   exact dsq

/-! ### spec_l9Coef: function 192 -/
def spec_l9Coef.f (a0 : Int) : Option (Bool) := (spec_l1In.f a0 (-16777216) 16777216).bind fun t164 => (some t164)
set_option maxHeartbeats 8000000 in
set_option maxRecDepth 100000 in
theorem spec_l9Coef.calls (a0 : Int) (r : Bool) (w : World) (h : spec_l9Coef.f a0 = some r) :
  Calls Try.prog 192 #[.int .i64 a0] w fun e w' => e = .returned (.bool r) ∧ Drawn0 w w' := by
 have H : ((spec_l1In.f a0 (-16777216) 16777216).bind fun t164 => (some t164)) = some r := h
 clear h
 obtain ⟨t164, A2, H⟩ := bnd H
 obtain rfl := Option.some.inj H
 go_enter Try.func192, Try.ntmps192
 go_wp2_with (first | ((with_reducible refine gate_callee (f := 96) rfl ?_); refine gl_ 4 Try.func96 #[.int .i64 a0, .int .i64 (-16777216), .int .i64 16777216] ?_; (with_reducible refine (spec_l1In.calls a0 (-16777216) 16777216 t164 _ A2.out).mono ?_); rintro e w' ⟨rfl, ⟨nd, rfl⟩⟩; refine ⟨_, rfl, ?_⟩))
 go_ret
 exact dsq

/-! ### spec_l14Fits: function 147 -/
def spec_l14Fits.f (k : Nat) (a0 : Int) (a1 : Int) : Option (Bool) := (spec_l9Step.f k a1).bind fun t165 => ((spec_l9Coef.f (wrap64 (a0 * t165))).bind fun t166 => (some t166))
theorem spec_l14Fits.mono : ∀ a0 a1 k, LeO (spec_l14Fits.f k a0 a1) (spec_l14Fits.f (k + 1) a0 a1) := by
 intro a0 a1 k
 unfold spec_l14Fits.f
 repeat' first
   | (with_reducible exact spec_l9Step.mono _ _)
   | (with_reducible exact LeO.refl _)
   | (with_reducible exact LeO.none _)
   | (with_reducible refine LeO.ite ?_ ?_)
   | (with_reducible refine LeO.bind ?_ (fun _ => ?_))
   | exact spec_l9Step.mono _ _
   | exact LeO.none _
   | refine LeO.ite ?_ ?_
   | refine LeO.bind ?_ (fun _ => ?_)
set_option maxHeartbeats 8000000 in
set_option maxRecDepth 100000 in
theorem spec_l14Fits.calls (k : Nat) (a0 : Int) (a1 : Int) (r : Bool) (w : World) (h : spec_l14Fits.f k a0 a1 = some r) :
  Calls Try.prog 147 #[.int .i64 a0, .int .i64 a1] w fun e w' => e = .returned (.bool r) ∧ Drawn0 w w' := by
 have H : ((spec_l9Step.f k a1).bind fun t165 => ((spec_l9Coef.f (wrap64 (a0 * t165))).bind fun t166 => (some t166))) = some r := h
 clear h
 obtain ⟨t165, A3, H⟩ := bnd H
 obtain ⟨t166, A4, H⟩ := bnd H
 obtain rfl := Option.some.inj H
 go_enter Try.func147, Try.ntmps147
 go_wp2_with (first | ((with_reducible refine gate_callee (f := 151) rfl ?_); refine gl_ 7 Try.func151 #[.int .i64 a1] ?_; (with_reducible refine (spec_l9Step.calls k a1 t165 _ A3.out).mono ?_); rintro e w' ⟨rfl, ⟨nd, rfl⟩⟩; refine ⟨_, rfl, ?_⟩) | ((with_reducible refine gate_callee (f := 192) rfl ?_); refine gl_ 9 Try.func192 #[.int .i64 (wrap64 (a0 * t165))] ?_; (with_reducible refine (spec_l9Coef.calls (wrap64 (a0 * t165)) t166 _ A4.out).mono ?_); rintro e w' ⟨rfl, ⟨nd, rfl⟩⟩; refine ⟨_, rfl, ?_⟩))
 go_ret
 exact dsq

end Go.Proofs.Ythehhncokikgcaa.PFnExactPartOf
