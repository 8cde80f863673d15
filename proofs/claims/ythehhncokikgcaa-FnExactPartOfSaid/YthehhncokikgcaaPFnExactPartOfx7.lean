-- Contracts of the functions that the law reaches, written by wip/xprint.py of this repo.
import Derived.Test.YthehhncokikgcaaPFnExactPartOfx0
import Derived.Test.YthehhncokikgcaaPFnExactPartOfx1
namespace Go.Proofs.Ythehhncokikgcaa.PFnExactPartOf
open Go.RowKit Go.Proofs.YthehhncokikgcaaW.PrintWords Go.Proofs.YthehhncokikgcaaW.PrintLast Go.Proofs.YthehhncokikgcaaW.PrintMore
attribute [local go_sem] max2_int min2_int max_two min_two max_three min_three max_four min_four   -- for this text's walks alone
set_option linter.unusedVariables false
set_option linter.unusedSimpArgs false

/-! ### spec_l1Ints: function 134 -/
def spec_l1Ints.f (l0 : List Int) : Option (List Int) := (some (([] : List Int) : List Int)).bind fun y212 => (if y212.length + l0.length < 17592186044416 then (some (y212 ++ l0)) else (none))
set_option maxHeartbeats 8000000 in
set_option maxRecDepth 100000 in
theorem spec_l1Ints.calls (A0 : Option Addr) (c0 : Nat) (l0 : List Int) (r : List Int) (w : World) (hr0 : Kd.C (Kd.int .i64) w A0 l0.length l0) (hc0 : l0.length ≤ c0) (h : spec_l1Ints.f l0 = some r) :
  Calls Try.prog 134 #[.slice A0 l0.length c0] w fun e w' => ∃ v0_ : Value, e = .returned (v0_) ∧ Kd.R (Kd.int .i64) 2 w' w.heap.size (fun _ => True) v0_ r ∧ Below w.heap.size w w' := by
 have HR0 := Aside0.mk hr0
 have HC0 := Aside0.mk hc0
 clear hr0 hc0
 have HB := Aside0.mk (Below.refl w.heap.size w)
 have H : ((some (([] : List Int) : List Int)).bind fun y212 => (if y212.length + l0.length < 17592186044416 then (some (y212 ++ l0)) else (none))) = some r := h
 clear h
 obtain ⟨y212, hy212⟩ : ∃ y_ : List Int, y_ = (([] : List Int)) := ⟨_, rfl⟩
 replace H : (if y212.length + l0.length < 17592186044416 then (some (y212 ++ l0)) else (none)) = some r := by first | (rw [hy212]; with_reducible exact H) | (have H2_ := (Option.bind_some _ _).symm.trans H; rw [hy212]; with_reducible exact H2_) | (have H2_ := (Option.bind_some _ _).symm.trans H; with_reducible exact H2_) | with_reducible exact H | (rw [hy212]; exact H) | exact H
 have Ny212 := Aside0.mk hy212
 clear hy212
 by_cases c2 : y212.length + l0.length < 17592186044416
 ·rw [if_pos c2] at H
  have LMc2 := Aside0.mk c2
  clear c2
  obtain ⟨y215, hy215⟩ : ∃ y_ : List Int, y_ = (y212 ++ l0) := ⟨_, rfl⟩
  replace H : (some y215) = some r := by first | (rw [hy215]; with_reducible exact H) | (have H2_ := (Option.bind_some _ _).symm.trans H; rw [hy215]; with_reducible exact H2_) | (have H2_ := (Option.bind_some _ _).symm.trans H; with_reducible exact H2_) | with_reducible exact H | (rw [hy215]; exact H) | exact H
  have Ny215 := Aside0.mk hy215
  clear hy215
  obtain rfl := Option.some.inj H
  go_enter Try.func134, Try.ntmps134
  go_wp2_with (first | ((with_reducible refine gate_dst (N := 3) rfl ?_); refine Kd.R_lit (Kd.int .i64) _ 2 ?hg (N := 3) ?hd (xs := ([] : List Int)) (inner := []) (ok := fun _ => True) (okp := fun _ => True) ?hr ?hp (fun _ hk => hk) trivial (Below.refl _ _) (Nat.le_refl _) (by simp) ?_; (case hd => rfl); (case hg => rfl); (case hr => first | (go_simp; done) | (go_simp; rfl)); (case hp => exact (Reps.none _ _)); intro v213 w3 ho4 hb hg_ hnew_; clear hg_ hnew_; (first | rw [← Ny212.out] at ho4 | (simp only [Int.reduceToNat] at ho4; rw [← Ny212.out] at ho4)); have HO214 := rlw ho4; replace HB := hbs hb; clear hb ho4) | ((with_reducible refine gate_builtin (b := .append) (xs := #[.tmp 3, .tmp 4]) rfl ?_); at_builtin; refine Kd.R_append_rows (Kd.int .i64) (w0 := w) w.heap.size rfl (.tmp 3) (.tmp 4) 24 2 (.int .i64 0) 8 rfl Try.underlying24 info2 rfl (by decide) (by omega) v213 y212 l0 _ _ _ (fun _ => True) (fun _ => False) rfl rfl ?aO ?aR (fun _ _ h => h) (fun _ h => h.elim) ?aF ?aB ?aS ?aL ?_; (case aR => exact (Kd.C_below HR0.out HB.out)); (case aB => exact bnw); (case aF => exact (fun _ _ => trivial)); (case aO => exact (rpl HO214.out)); (case aS => exact bsz); (case aL => have := LMc2.out; omega); intro v216 w5 ho hb hg hat; rw [← Ny215.out] at ho; replace HB := am hb; have HO217 := am ho; clear HO214 ho hb hg hat))
  go_ret
  exact ⟨_, enq, HO217.out, bnw⟩
 ·rw [if_neg c2] at H
  exact absurd H (by simp)

/-! ### spec_l1Ceil: function 137 -/
def spec_l1Ceil.f (a0 : Int) (a1 : Int) : Option (Int) := if a1 = 0 then (none) else (some (wrap64 (Int.tdiv (wrap64 ((wrap64 (a0 + a1)) - 1)) a1)))
set_option maxHeartbeats 8000000 in
set_option maxRecDepth 100000 in
theorem spec_l1Ceil.calls (a0 : Int) (a1 : Int) (r : Int) (w : World) (h : spec_l1Ceil.f a0 a1 = some r) :
  Calls Try.prog 137 #[.int .i64 a0, .int .i64 a1] w fun e w' => e = .returned (.int .i64 r) ∧ Drawn0 w w' := by
 have H : (if a1 = 0 then (none) else (some (wrap64 (Int.tdiv (wrap64 ((wrap64 (a0 + a1)) - 1)) a1)))) = some r := h
 clear h
 by_cases c3 : a1 = 0
 ·rw [if_pos c3] at H
  exact absurd H (by simp)
 ·rw [if_neg c3] at H
  have c3b0 : (a1 == 0) = false := beq_eq_false_iff_ne.mpr c3
  have c3b1 : (a1 != 0) = true := bne_iff_ne.mpr c3
  obtain rfl := Option.some.inj H
  go_enter Try.func137, Try.ntmps137
  go_wp2
  go_ret
  exact dsq

/-! ### spec_l1Floor: function 203 -/
def spec_l1Floor.f (a0 : Int) (a1 : Int) : Option (Int) := if a0 < 0 then ((spec_l1Ceil.f (wrap64 (-a0)) a1).bind fun t218 => (some (wrap64 (-t218)))) else (if a1 = 0 then (none) else (some (wrap64 (Int.tdiv a0 a1))))
set_option maxHeartbeats 8000000 in
set_option maxRecDepth 100000 in
theorem spec_l1Floor.calls (a0 : Int) (a1 : Int) (r : Int) (w : World) (h : spec_l1Floor.f a0 a1 = some r) :
  Calls Try.prog 203 #[.int .i64 a0, .int .i64 a1] w fun e w' => e = .returned (.int .i64 r) ∧ Drawn0 w w' := by
 have H : (if a0 < 0 then ((spec_l1Ceil.f (wrap64 (-a0)) a1).bind fun t218 => (some (wrap64 (-t218)))) else (if a1 = 0 then (none) else (some (wrap64 (Int.tdiv a0 a1))))) = some r := h
 clear h
 by_cases c3 : a0 < 0
 ·rw [if_pos c3] at H
  have c3b0 : decide (a0 < 0) = true := decide_eq_true c3
  clear c3
  obtain ⟨t218, A4, H⟩ := bnd H
  obtain rfl := Option.some.inj H
  go_enter Try.func203, Try.ntmps203
  go_wp2_with (first | ((with_reducible refine gate_callee (f := 137) rfl ?_); refine gl_ 10 Try.func137 #[.int .i64 (wrap64 (-a0)), .int .i64 a1] ?_; (with_reducible refine (spec_l1Ceil.calls (wrap64 (-a0)) a1 t218 _ A4.out).mono ?_); rintro e w' ⟨rfl, ⟨nd, rfl⟩⟩; refine ⟨_, rfl, ?_⟩))
  go_ret
  exact dsq
 ·rw [if_neg c3] at H
  have c3b0 : decide (a0 < 0) = false := decide_eq_false c3
  clear c3
  by_cases c5 : a1 = 0
  ·rw [if_pos c5] at H
   exact absurd H (by simp)
  ·rw [if_neg c5] at H
   have c5b0 : (a1 == 0) = false := beq_eq_false_iff_ne.mpr c5
   have c5b1 : (a1 != 0) = true := bne_iff_ne.mpr c5
   obtain rfl := Option.some.inj H
   go_enter Try.func203, Try.ntmps203
   go_wp2
   go_ret
   exact dsq

/-! ### spec_l10Split: function 168 -/
def spec_l10Split.j0 : Nat → Int → Bool → Int → Int → Int → Option (Int × Int)
 | 0, _, _, _, _, _ => none
 | k + 1, x0, x2, x8, x9, x10 => if x0 = (wrap64 ((wrap64 (3 * x10)) + 2)) then (if x2 = true then (some (x9, wrap64 (x10 + 1))) else (some (wrap64 (x10 + 1), x9))) else (if x2 = true then (some (x9, x8)) else (some (x8, x9)))
def spec_l10Split.f (k : Nat) (a0 : Int) (a1 : Int) (a2 : Bool) : Option (Int × Int) := if a1 = 1 then ((spec_l1Floor.f (wrap64 (a0 + 1)) 2).bind fun t219 => ((spec_l1Floor.f a0 2).bind fun t220 => (if a2 = true then (some (t220, t219)) else (some (t219, t220))))) else (if a1 = 2 then ((spec_l1Floor.f a0 3).bind fun t221 => (if a0 = (wrap64 ((wrap64 (3 * t221)) + 1)) then (spec_l10Split.j0 k a0 a2 t221 (wrap64 (t221 + 1)) t221) else (spec_l10Split.j0 k a0 a2 t221 t221 t221))) else (if a2 = true then (some (a0, a0)) else (some (a0, a0))))
theorem spec_l10Split.mono_l : ∀ k, (∀ y0 y1 y2 y3 y4, LeO (spec_l10Split.j0 k y0 y1 y2 y3 y4) (spec_l10Split.j0 (k + 1) y0 y1 y2 y3 y4))
 | 0 => fun _ _ _ _ _ r h => by simp [spec_l10Split.j0] at h
 | k + 1 => by
  have ih0 := spec_l10Split.mono_l k
  ·intro y0 y1 y2 y3 y4
   unfold spec_l10Split.j0
   repeat' first
   | (with_reducible exact ih0 _ _ _ _ _)
   | (with_reducible exact LeO.refl _)
   | (with_reducible exact LeO.none _)
   | (with_reducible refine LeO.ite ?_ ?_)
   | (with_reducible refine LeO.bind ?_ (fun _ => ?_))
   | exact ih0 _ _ _ _ _
   | exact LeO.none _
   | refine LeO.ite ?_ ?_
   | refine LeO.bind ?_ (fun _ => ?_)
theorem spec_l10Split.mono : ∀ a0 a1 a2 k, LeO (spec_l10Split.f k a0 a1 a2) (spec_l10Split.f (k + 1) a0 a1 a2) := by
 intro a0 a1 a2 k
 have ih0 := spec_l10Split.mono_l k
 unfold spec_l10Split.f
 repeat' first
   | (with_reducible exact ih0 _ _ _ _ _)
   | (with_reducible exact LeO.refl _)
   | (with_reducible exact LeO.none _)
   | (with_reducible refine LeO.ite ?_ ?_)
   | (with_reducible refine LeO.bind ?_ (fun _ => ?_))
   | exact ih0 _ _ _ _ _
   | exact LeO.none _
   | refine LeO.ite ?_ ?_
   | refine LeO.bind ?_ (fun _ => ?_)
set_option maxHeartbeats 8000000 in
set_option maxRecDepth 100000 in
theorem spec_l10Split.calls (k : Nat) (a0 : Int) (a1 : Int) (a2 : Bool) (r1 : Int) (r2 : Int) (w : World) (h : spec_l10Split.f k a0 a1 a2 = some (r1, r2)) :
  Calls Try.prog 168 #[.int .i64 a0, .int .i64 a1, .bool a2] w fun e w' => e = .returned (.tuple #[.int .i64 r1, .int .i64 r2]) ∧ Drawn0 w w' := by
 have H : (if a1 = 1 then ((spec_l1Floor.f (wrap64 (a0 + 1)) 2).bind fun t219 => ((spec_l1Floor.f a0 2).bind fun t220 => (if a2 = true then (some (t220, t219)) else (some (t219, t220))))) else (if a1 = 2 then ((spec_l1Floor.f a0 3).bind fun t221 => (if a0 = (wrap64 ((wrap64 (3 * t221)) + 1)) then (spec_l10Split.j0 k a0 a2 t221 (wrap64 (t221 + 1)) t221) else (spec_l10Split.j0 k a0 a2 t221 t221 t221))) else (if a2 = true then (some (a0, a0)) else (some (a0, a0))))) = some (r1, r2) := h
 clear h
 by_cases c4 : a1 = 1
 ·rw [if_pos c4] at H
  have c4b0 : (a1 == 1) = true := beq_iff_eq.mpr c4
  have c4b1 : (a1 != 1) = false := bne_eq_false_iff_eq.mpr c4
  clear c4
  obtain ⟨t219, A5, H⟩ := bnd H
  obtain ⟨t220, A6, H⟩ := bnd H
  by_cases c7 : a2 = true
  ·subst c7
   replace H : (some (t220, t219)) = some (r1, r2) := by rw [if_pos rfl] at H; exact H
   simp only [Option.some.injEq, Prod.mk.injEq] at H
   obtain ⟨rfl, rfl⟩ := H
   go_enter Try.func168, Try.ntmps168
   go_wp2_with (first | ((with_reducible refine gate_callee (f := 203) rfl ?_); refine gl_ 18 Try.func203 #[.int .i64 (wrap64 (a0 + 1)), .int .i64 2] ?_; (with_reducible refine (spec_l1Floor.calls (wrap64 (a0 + 1)) 2 t219 _ A5.out).mono ?_); rintro e w' ⟨rfl, ⟨nd, rfl⟩⟩; refine ⟨_, rfl, ?_⟩) | ((with_reducible refine gate_callee (f := 203) rfl ?_); refine gl_ 20 Try.func203 #[.int .i64 a0, .int .i64 2] ?_; (with_reducible refine (spec_l1Floor.calls a0 2 t220 _ A6.out).mono ?_); rintro e w' ⟨rfl, ⟨nd, rfl⟩⟩; refine ⟨_, rfl, ?_⟩))
   go_ret2
   exact dsq
  ·replace c7 := Bool.eq_false_iff.mpr c7
   subst c7
   replace H : (some (t219, t220)) = some (r1, r2) := by rw [if_neg (show ¬ (false = true) by decide)] at H; exact H
   simp only [Option.some.injEq, Prod.mk.injEq] at H
   obtain ⟨rfl, rfl⟩ := H
   go_enter Try.func168, Try.ntmps168
   go_wp2_with (first | ((with_reducible refine gate_callee (f := 203) rfl ?_); refine gl_ 18 Try.func203 #[.int .i64 (wrap64 (a0 + 1)), .int .i64 2] ?_; (with_reducible refine (spec_l1Floor.calls (wrap64 (a0 + 1)) 2 t219 _ A5.out).mono ?_); rintro e w' ⟨rfl, ⟨nd, rfl⟩⟩; refine ⟨_, rfl, ?_⟩) | ((with_reducible refine gate_callee (f := 203) rfl ?_); refine gl_ 20 Try.func203 #[.int .i64 a0, .int .i64 2] ?_; (with_reducible refine (spec_l1Floor.calls a0 2 t220 _ A6.out).mono ?_); rintro e w' ⟨rfl, ⟨nd, rfl⟩⟩; refine ⟨_, rfl, ?_⟩))
   go_ret2
   exact dsq
 ·rw [if_neg c4] at H
  have c4b0 : (a1 == 1) = false := beq_eq_false_iff_ne.mpr c4
  have c4b1 : (a1 != 1) = true := bne_iff_ne.mpr c4
  by_cases c8 : a1 = 2
  ·rw [if_pos c8] at H
   have c8b0 : (a1 == 2) = true := beq_iff_eq.mpr c8
   have c8b1 : (a1 != 2) = false := bne_eq_false_iff_eq.mpr c8
   clear c8
   obtain ⟨t221, A9, H⟩ := bnd H
   have HC10 := Aside0.mk H
   clear H
   go_enter Try.func168, Try.ntmps168
   go_upto_if 31 with (first | ((with_reducible refine gate_callee (f := 203) rfl ?_); refine gl_ 24 Try.func203 #[.int .i64 a0, .int .i64 3] ?_; (with_reducible refine (spec_l1Floor.calls a0 3 t221 _ A9.out).mono ?_); rintro e w' ⟨rfl, ⟨nd, rfl⟩⟩; refine ⟨_, rfl, ?_⟩))
   (try simp only [Act.put, List.setIfInBounds_toArray, List.set_cons_zero, List.set_cons_succ])
   go_cut [9] (fun v9 wc => ∃ (kq : Nat) (x9_9 : Int), v9 = .int .i64 x9_9 ∧ Aside0 (spec_l10Split.j0 kq a0 a2 t221 x9_9 t221 = some (r1, r2)) ∧ Aside0 (kq ≤ k) ∧ Drawn0 w wc)
   case first =>
    have H := HC10.out
    clear HC10
    by_cases c11 : a0 = (wrap64 ((wrap64 (3 * t221)) + 1))
    ·rw [if_pos c11] at H
     have c11b0 : (a0 == (wrap64 ((wrap64 (3 * t221)) + 1))) = true := beq_iff_eq.mpr c11
     have c11b1 : (a0 != (wrap64 ((wrap64 (3 * t221)) + 1))) = false := bne_eq_false_iff_eq.mpr c11
     clear c11
     (first | rw [c11b0] | (simp only [i64_w, i32_w]; rw [c11b0]) | skip)
     have H' := Aside0.mk H
     clear H
     go_wp2
     go_meet
     case rel => exact ⟨_, (wrap64 (t221 + 1)), rq, H', ⟨by first | omega | exact Nat.le_refl _⟩, by repeat (first | exact Drawn0.refl _ | apply Drawn0.step)⟩
    ·rw [if_neg c11] at H
     have c11b0 : (a0 == (wrap64 ((wrap64 (3 * t221)) + 1))) = false := beq_eq_false_iff_ne.mpr c11
     have c11b1 : (a0 != (wrap64 ((wrap64 (3 * t221)) + 1))) = true := bne_iff_ne.mpr c11
     (first | rw [c11b0] | (simp only [i64_w, i32_w]; rw [c11b0]) | skip)
     have H' := Aside0.mk H
     clear H
     go_wp2
     go_meet
     case rel => exact ⟨_, (t221), rq, H', ⟨by first | omega | exact Nat.le_refl _⟩, by repeat (first | exact Drawn0.refl _ | apply Drawn0.step)⟩
   case rest =>
    clear HC10
    try clear c1
    try clear c2
    try clear p2
    try clear c4
    try clear c4b0
    try clear c4b1
    try clear p6
    try clear c7
    try clear c8
    try clear c8b0
    try clear c8b1
    try clear c11
    try clear c11b0
    try clear c11b1
    obtain ⟨kq, x9_9, rfl, HA, HJ9, ⟨mc9, rfl⟩⟩ := hcut
    cases kq with
    | zero => exact absurd HA.out (by simp [spec_l10Split.j0])
    | succ kj9 =>
     have H := HA.out
     clear HA
     simp only [spec_l10Split.j0] at H
     by_cases c12 : a0 = (wrap64 ((wrap64 (3 * t221)) + 2))
     ·rw [if_pos c12] at H
      have c12b0 : (a0 == (wrap64 ((wrap64 (3 * t221)) + 2))) = true := beq_iff_eq.mpr c12
      have c12b1 : (a0 != (wrap64 ((wrap64 (3 * t221)) + 2))) = false := bne_eq_false_iff_eq.mpr c12
      clear c12
      by_cases c13 : a2 = true
      ·subst c13
       replace H : (some (x9_9, wrap64 (t221 + 1))) = some (r1, r2) := by rw [if_pos rfl] at H; exact H
       simp only [Option.some.injEq, Prod.mk.injEq] at H
       obtain ⟨rfl, rfl⟩ := H
       go_wp2
       go_ret2
       exact dsq
      ·replace c13 := Bool.eq_false_iff.mpr c13
       subst c13
       replace H : (some (wrap64 (t221 + 1), x9_9)) = some (r1, r2) := by rw [if_neg (show ¬ (false = true) by decide)] at H; exact H
       simp only [Option.some.injEq, Prod.mk.injEq] at H
       obtain ⟨rfl, rfl⟩ := H
       go_wp2
       go_ret2
       exact dsq
     ·rw [if_neg c12] at H
      have c12b0 : (a0 == (wrap64 ((wrap64 (3 * t221)) + 2))) = false := beq_eq_false_iff_ne.mpr c12
      have c12b1 : (a0 != (wrap64 ((wrap64 (3 * t221)) + 2))) = true := bne_iff_ne.mpr c12
      by_cases c14 : a2 = true
      ·subst c14
       replace H : (some (x9_9, t221)) = some (r1, r2) := by rw [if_pos rfl] at H; exact H
       simp only [Option.some.injEq, Prod.mk.injEq] at H
       obtain ⟨rfl, rfl⟩ := H
       go_wp2
       go_ret2
       exact dsq
      ·replace c14 := Bool.eq_false_iff.mpr c14
       subst c14
       replace H : (some (t221, x9_9)) = some (r1, r2) := by rw [if_neg (show ¬ (false = true) by decide)] at H; exact H
       simp only [Option.some.injEq, Prod.mk.injEq] at H
       obtain ⟨rfl, rfl⟩ := H
       go_wp2
       go_ret2
       exact dsq
  ·rw [if_neg c8] at H
   have c8b0 : (a1 == 2) = false := beq_eq_false_iff_ne.mpr c8
   have c8b1 : (a1 != 2) = true := bne_iff_ne.mpr c8
   by_cases c15 : a2 = true
   ·subst c15
    replace H : (some (a0, a0)) = some (r1, r2) := by rw [if_pos rfl] at H; exact H
    simp only [Option.some.injEq, Prod.mk.injEq] at H
    obtain ⟨rfl, rfl⟩ := H
    go_enter Try.func168, Try.ntmps168
    go_wp2
    go_ret2
    exact dsq
   ·replace c15 := Bool.eq_false_iff.mpr c15
    subst c15
    replace H : (some (a0, a0)) = some (r1, r2) := by rw [if_neg (show ¬ (false = true) by decide)] at H; exact H
    simp only [Option.some.injEq, Prod.mk.injEq] at H
    obtain ⟨rfl, rfl⟩ := H
    go_enter Try.func168, Try.ntmps168
    go_wp2
    go_ret2
    exact dsq

end Go.Proofs.Ythehhncokikgcaa.PFnExactPartOf
