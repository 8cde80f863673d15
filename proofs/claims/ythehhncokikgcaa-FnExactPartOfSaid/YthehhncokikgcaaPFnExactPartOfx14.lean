-- Contracts of the functions that the law reaches, written by wip/xprint.py of this repo.
import Derived.Test.YthehhncokikgcaaPFnExactPartOfx0
import Derived.Test.YthehhncokikgcaaPFnExactPartOfx1
namespace Go.Proofs.Ythehhncokikgcaa.PFnExactPartOf
open Go.RowKit Go.Proofs.YthehhncokikgcaaW.PrintWords Go.Proofs.YthehhncokikgcaaW.PrintLast Go.Proofs.YthehhncokikgcaaW.PrintMore
attribute [local go_sem] max2_int min2_int max_two min_two max_three min_three max_four min_four   -- for this text's walks alone
set_option linter.unusedVariables false
set_option linter.unusedSimpArgs false

/-! ### impl_isTurned: function 94 -/
def impl_isTurned.f (a0 : Int) : Option (Bool) := some ((Int.tmod a0 2) == 1)
set_option maxHeartbeats 8000000 in
set_option maxRecDepth 100000 in
theorem impl_isTurned.calls (a0 : Int) (r : Bool) (w : World) (h : impl_isTurned.f a0 = some r) :
  Calls Try.prog 94 #[.int .i64 a0] w fun e w' => e = .returned (.bool r) ∧ Drawn0 w w' := by
 have H : (some ((Int.tmod a0 2) == 1)) = some r := h
 clear h
 obtain rfl := Option.some.inj H
 go_enter Try.func94, Try.ntmps94
 go_wp2
 go_ret
 exact dsq

/-! ### slices_Clone_int64_int64: function 101 -/
def slices_Clone_int64_int64.f (l0 : List Int) : Option (List Int) := if l0.length * 8 ≤ 140737488355328 then some l0 else none
set_option maxHeartbeats 2000000 in
set_option maxRecDepth 100000 in
theorem slices_Clone_int64_int64.calls (A0 : Option Addr) (c0 : Nat) (l0 : List Int) (r : List Int) (w : World) (hr0 : Kd.C (Kd.int .i64) w A0 l0.length l0) (hc0 : l0.length ≤ c0) (h : slices_Clone_int64_int64.f l0 = some r) :
    Calls Try.prog 101 #[.slice A0 l0.length c0] w fun e w' => ∃ v0_ : Value, e = .returned (v0_) ∧ Kd.R (Kd.int .i64) 2 w' w.heap.size (fun _ => True) v0_ r ∧ Below w.heap.size w w' := by
  unfold slices_Clone_int64_int64.f at h
  by_cases hbig : l0.length * 8 ≤ 140737488355328
  · rw [if_pos hbig] at h
    obtain rfl := Option.some.inj h
    clear h
    have q : ∀ (w : World) (a : Option Addr) (n c n' c' : Nat), (binOp .eql 24 (.slice a n c) (.slice none n' c')).run Try.prog w = .ok (.bool a.isNone) w := fun w a n c n' c' => Lib.run_eql_slice_nil w _ _ a n c n' c' Try.underlying24
    have infoC : (Try.prog.info? 2).map (fun i => (i.zero, i.size, i.bytes)) = some (some (.int .i64 0), 1, 8) := by kernel_rfl
    cases A0 with
    | none =>
      have hz : l0 = [] := by
        cases l0 with
        | nil => rfl
        | cons x xs =>
          obtain ⟨ad, e1, _⟩ := Kd.at_int hr0 0 (by omega) (by simp <;> omega)
          cases e1
      subst hz
      clear hr0 hc0
      go_enter Try.func101, Try.ntmps101
      go_wp2
      go_ret
      exact ⟨_, rfl, Kd.R_nil _ _ _ _ _, Below.refl _ _⟩
    | some ad =>
      have HR := Aside0.mk hr0
      have HB := Aside0.mk (Below.refl w.heap.size w)
      clear hr0
      go_enter Try.func101, Try.ntmps101
      go_wp2_with (first | ((with_reducible refine gate_dst (N := 5) rfl ?_); refine Kd.R_lit (Kd.int .i64) _ 2 ?hg (N := 5) ?hd (xs := ([] : List Int)) (inner := []) (ok := fun _ => True) (okp := fun _ => True) ?hr ?hp (fun _ hk => hk) trivial (Below.refl _ _) (Nat.le_refl _) (by simp) ?_; (case hd => rfl); (case hg => rfl); (case hr => first | (go_simp; done) | (go_simp; rfl)); (case hp => exact (Reps.none _ _)); intro v225 w3 ho4 hb hg_ hnew_; clear hg_ hnew_; have HO226 := am (Kd.R_lower ho4 (below_size (by repeat (first | (with_reducible first | exact HB.out | apply below_alloc | apply pw_below_drewN | apply below_drew1) | exact HB.out)))); replace HB := am (below_step (by repeat (first | (with_reducible first | exact HB.out | apply below_alloc | apply pw_below_drewN | apply below_drew1) | exact HB.out)) hb); clear hb ho4) | ((with_reducible refine gate_builtin (b := .append) (xs := #[.tmp 5, .tmp 6]) rfl ?_); at_builtin; refine Kd.R_append_rows (Kd.int .i64) (w0 := w) w.heap.size rfl (.tmp 5) (.tmp 6) 24 2 (.int .i64 0) 8 rfl Try.underlying24 infoC rfl (by decide) (by omega) v225 ([] : List Int) l0 _ _ _ (fun _ => True) (fun _ => False) rfl rfl ?aO ?aR (fun _ _ h => h) (fun _ h => h.elim) ?aF ?aB ?aS ?aL ?_; (case aR => repeat (first | exact (Kd.C_below HR.out HB.out) | (with_reducible refine Kd.C_alloc ?_ _) | (with_reducible refine Kd.C_drewN ?_ _) | (with_reducible refine Kd.C_drew ?_))); (case aB => exact (by repeat (first | (with_reducible first | exact HB.out | apply below_alloc | apply pw_below_drewN | apply below_drew1) | exact HB.out))); (case aF => exact (fun _ _ => trivial)); (case aO => exact (by (with_reducible repeat (first | apply Kd.R_alloc | apply Kd.R_drewN | apply Kd.R_drew)); exact HO226.out)); (case aS => exact (below_size (by repeat (first | (with_reducible first | exact HB.out | apply below_alloc | apply pw_below_drewN | apply below_drew1) | exact HB.out)))); (case aL => simp only [List.length_nil]; omega); intro v228 w5 ho hb hg hat; rw [List.nil_append] at ho; replace HB := am hb; have HO229 := am ho; clear HO226 ho hb hg hat))
      go_ret
      exact ⟨_, rfl, HO229.out, HB.out⟩
  · rw [if_neg hbig] at h
    cases h

/-! ### impl_floorDiv: function 169 -/
def impl_floorDiv.f (a0 : Int) (a1 : Int) : Option (Int) := if a1 = 0 then (none) else (if (Int.tmod a0 a1) < 0 then (some (wrap64 ((wrap64 (Int.tdiv a0 a1)) - 1))) else (some (wrap64 (Int.tdiv a0 a1))))
set_option maxHeartbeats 8000000 in
set_option maxRecDepth 100000 in
theorem impl_floorDiv.calls (a0 : Int) (a1 : Int) (r : Int) (w : World) (h : impl_floorDiv.f a0 a1 = some r) :
  Calls Try.prog 169 #[.int .i64 a0, .int .i64 a1] w fun e w' => e = .returned (.int .i64 r) ∧ Drawn0 w w' := by
 have H : (if a1 = 0 then (none) else (if (Int.tmod a0 a1) < 0 then (some (wrap64 ((wrap64 (Int.tdiv a0 a1)) - 1))) else (some (wrap64 (Int.tdiv a0 a1))))) = some r := h
 clear h
 by_cases c3 : a1 = 0
 ·rw [if_pos c3] at H
  exact absurd H (by simp)
 ·rw [if_neg c3] at H
  have c3b0 : (a1 == 0) = false := beq_eq_false_iff_ne.mpr c3
  have c3b1 : (a1 != 0) = true := bne_iff_ne.mpr c3
  by_cases c4 : (Int.tmod a0 a1) < 0
  ·rw [if_pos c4] at H
   have c4b0 : decide ((Int.tmod a0 a1) < 0) = true := decide_eq_true c4
   clear c4
   obtain rfl := Option.some.inj H
   go_enter Try.func169, Try.ntmps169
   go_wp2
   go_ret
   exact dsq
  ·rw [if_neg c4] at H
   have c4b0 : decide ((Int.tmod a0 a1) < 0) = false := decide_eq_false c4
   clear c4
   obtain rfl := Option.some.inj H
   go_enter Try.func169, Try.ntmps169
   go_wp2
   go_ret
   exact dsq

/-! ### impl_splitIndex: function 102 -/
def impl_splitIndex.f (a0 : Int) (a1 : Int) (a2 : Bool) : Option (Int × Int) := if a1 = 1 then ((impl_floorDiv.f (wrap64 (a0 + 1)) 2).bind fun t396 => ((impl_floorDiv.f a0 2).bind fun t397 => (if a2 = true then (some (t397, t396)) else (some (t396, t397))))) else (if a1 = 2 then ((impl_floorDiv.f a0 3).bind fun t398 => (if (wrap64 (a0 - (wrap64 (3 * t398)))) = 1 then (if a2 = true then (some (wrap64 (t398 + 1), t398)) else (some (t398, wrap64 (t398 + 1)))) else (if (wrap64 (a0 - (wrap64 (3 * t398)))) = 2 then (if a2 = true then (some (t398, wrap64 (t398 + 1))) else (some (wrap64 (t398 + 1), t398))) else (if a2 = true then (some (t398, t398)) else (some (t398, t398)))))) else (if a2 = true then (some (a0, a0)) else (some (a0, a0))))
set_option maxHeartbeats 8000000 in
set_option maxRecDepth 100000 in
theorem impl_splitIndex.calls (a0 : Int) (a1 : Int) (a2 : Bool) (r1 : Int) (r2 : Int) (w : World) (h : impl_splitIndex.f a0 a1 a2 = some (r1, r2)) :
  Calls Try.prog 102 #[.int .i64 a0, .int .i64 a1, .bool a2] w fun e w' => e = .returned (.tuple #[.int .i64 r1, .int .i64 r2]) ∧ Drawn0 w w' := by
 have H : (if a1 = 1 then ((impl_floorDiv.f (wrap64 (a0 + 1)) 2).bind fun t396 => ((impl_floorDiv.f a0 2).bind fun t397 => (if a2 = true then (some (t397, t396)) else (some (t396, t397))))) else (if a1 = 2 then ((impl_floorDiv.f a0 3).bind fun t398 => (if (wrap64 (a0 - (wrap64 (3 * t398)))) = 1 then (if a2 = true then (some (wrap64 (t398 + 1), t398)) else (some (t398, wrap64 (t398 + 1)))) else (if (wrap64 (a0 - (wrap64 (3 * t398)))) = 2 then (if a2 = true then (some (t398, wrap64 (t398 + 1))) else (some (wrap64 (t398 + 1), t398))) else (if a2 = true then (some (t398, t398)) else (some (t398, t398)))))) else (if a2 = true then (some (a0, a0)) else (some (a0, a0))))) = some (r1, r2) := h
 clear h
 by_cases c4 : a1 = 1
 ·rw [if_pos c4] at H
  have c4b0 : (a1 == 1) = true := beq_iff_eq.mpr c4
  have c4b1 : (a1 != 1) = false := bne_eq_false_iff_eq.mpr c4
  clear c4
  obtain ⟨t396, A5, H⟩ := bnd H
  obtain ⟨t397, A6, H⟩ := bnd H
  by_cases c7 : a2 = true
  ·subst c7
   replace H : (some (t397, t396)) = some (r1, r2) := by rw [if_pos rfl] at H; exact H
   simp only [Option.some.injEq, Prod.mk.injEq] at H
   obtain ⟨rfl, rfl⟩ := H
   go_enter Try.func102, Try.ntmps102
   go_wp2_with (first | ((with_reducible refine gate_callee (f := 169) rfl ?_); refine gl_ 18 Try.func169 #[.int .i64 (wrap64 (a0 + 1)), .int .i64 2] ?_; (with_reducible refine (impl_floorDiv.calls (wrap64 (a0 + 1)) 2 t396 _ A5.out).mono ?_); rintro e w' ⟨rfl, ⟨nd, rfl⟩⟩; refine ⟨_, rfl, ?_⟩) | ((with_reducible refine gate_callee (f := 169) rfl ?_); refine gl_ 20 Try.func169 #[.int .i64 a0, .int .i64 2] ?_; (with_reducible refine (impl_floorDiv.calls a0 2 t397 _ A6.out).mono ?_); rintro e w' ⟨rfl, ⟨nd, rfl⟩⟩; refine ⟨_, rfl, ?_⟩))
   go_ret2
   exact dsq
  ·replace c7 := Bool.eq_false_iff.mpr c7
   subst c7
   replace H : (some (t396, t397)) = some (r1, r2) := by rw [if_neg (show ¬ (false = true) by decide)] at H; exact H
   simp only [Option.some.injEq, Prod.mk.injEq] at H
   obtain ⟨rfl, rfl⟩ := H
   go_enter Try.func102, Try.ntmps102
   go_wp2_with (first | ((with_reducible refine gate_callee (f := 169) rfl ?_); refine gl_ 18 Try.func169 #[.int .i64 (wrap64 (a0 + 1)), .int .i64 2] ?_; (with_reducible refine (impl_floorDiv.calls (wrap64 (a0 + 1)) 2 t396 _ A5.out).mono ?_); rintro e w' ⟨rfl, ⟨nd, rfl⟩⟩; refine ⟨_, rfl, ?_⟩) | ((with_reducible refine gate_callee (f := 169) rfl ?_); refine gl_ 20 Try.func169 #[.int .i64 a0, .int .i64 2] ?_; (with_reducible refine (impl_floorDiv.calls a0 2 t397 _ A6.out).mono ?_); rintro e w' ⟨rfl, ⟨nd, rfl⟩⟩; refine ⟨_, rfl, ?_⟩))
   go_ret2
   exact dsq
 ·rw [if_neg c4] at H
  have c4b0 : (a1 == 1) = false := beq_eq_false_iff_ne.mpr c4
  have c4b1 : (a1 != 1) = true := bne_iff_ne.mpr c4
  by_cases c8 : a1 = 2
  ·rw [if_pos c8] at H
   have c8b0 : (a1 == 2) = true := beq_iff_eq.mpr c8
   have c8b1 : (a1 != 2) = false := bne_eq_false_iff_eq.mpr c8
   clear c8
   obtain ⟨t398, A9, H⟩ := bnd H
   by_cases c10 : (wrap64 (a0 - (wrap64 (3 * t398)))) = 1
   ·rw [if_pos c10] at H
    have c10b0 : ((wrap64 (a0 - (wrap64 (3 * t398)))) == 1) = true := beq_iff_eq.mpr c10
    have c10b1 : ((wrap64 (a0 - (wrap64 (3 * t398)))) != 1) = false := bne_eq_false_iff_eq.mpr c10
    clear c10
    by_cases c11 : a2 = true
    ·subst c11
     replace H : (some (wrap64 (t398 + 1), t398)) = some (r1, r2) := by rw [if_pos rfl] at H; exact H
     simp only [Option.some.injEq, Prod.mk.injEq] at H
     obtain ⟨rfl, rfl⟩ := H
     go_enter Try.func102, Try.ntmps102
     go_wp2_with (first | ((with_reducible refine gate_callee (f := 169) rfl ?_); refine gl_ 24 Try.func169 #[.int .i64 a0, .int .i64 3] ?_; (with_reducible refine (impl_floorDiv.calls a0 3 t398 _ A9.out).mono ?_); rintro e w' ⟨rfl, ⟨nd, rfl⟩⟩; refine ⟨_, rfl, ?_⟩))
     go_ret2
     exact dsq
    ·replace c11 := Bool.eq_false_iff.mpr c11
     subst c11
     replace H : (some (t398, wrap64 (t398 + 1))) = some (r1, r2) := by rw [if_neg (show ¬ (false = true) by decide)] at H; exact H
     simp only [Option.some.injEq, Prod.mk.injEq] at H
     obtain ⟨rfl, rfl⟩ := H
     go_enter Try.func102, Try.ntmps102
     go_wp2_with (first | ((with_reducible refine gate_callee (f := 169) rfl ?_); refine gl_ 24 Try.func169 #[.int .i64 a0, .int .i64 3] ?_; (with_reducible refine (impl_floorDiv.calls a0 3 t398 _ A9.out).mono ?_); rintro e w' ⟨rfl, ⟨nd, rfl⟩⟩; refine ⟨_, rfl, ?_⟩))
     go_ret2
     exact dsq
   ·rw [if_neg c10] at H
    have c10b0 : ((wrap64 (a0 - (wrap64 (3 * t398)))) == 1) = false := beq_eq_false_iff_ne.mpr c10
    have c10b1 : ((wrap64 (a0 - (wrap64 (3 * t398)))) != 1) = true := bne_iff_ne.mpr c10
    by_cases c12 : (wrap64 (a0 - (wrap64 (3 * t398)))) = 2
    ·rw [if_pos c12] at H
     have c12b0 : ((wrap64 (a0 - (wrap64 (3 * t398)))) == 2) = true := beq_iff_eq.mpr c12
     have c12b1 : ((wrap64 (a0 - (wrap64 (3 * t398)))) != 2) = false := bne_eq_false_iff_eq.mpr c12
     clear c12
     by_cases c13 : a2 = true
     ·subst c13
      replace H : (some (t398, wrap64 (t398 + 1))) = some (r1, r2) := by rw [if_pos rfl] at H; exact H
      simp only [Option.some.injEq, Prod.mk.injEq] at H
      obtain ⟨rfl, rfl⟩ := H
      go_enter Try.func102, Try.ntmps102
      go_wp2_with (first | ((with_reducible refine gate_callee (f := 169) rfl ?_); refine gl_ 24 Try.func169 #[.int .i64 a0, .int .i64 3] ?_; (with_reducible refine (impl_floorDiv.calls a0 3 t398 _ A9.out).mono ?_); rintro e w' ⟨rfl, ⟨nd, rfl⟩⟩; refine ⟨_, rfl, ?_⟩))
      go_ret2
      exact dsq
     ·replace c13 := Bool.eq_false_iff.mpr c13
      subst c13
      replace H : (some (wrap64 (t398 + 1), t398)) = some (r1, r2) := by rw [if_neg (show ¬ (false = true) by decide)] at H; exact H
      simp only [Option.some.injEq, Prod.mk.injEq] at H
      obtain ⟨rfl, rfl⟩ := H
      go_enter Try.func102, Try.ntmps102
      go_wp2_with (first | ((with_reducible refine gate_callee (f := 169) rfl ?_); refine gl_ 24 Try.func169 #[.int .i64 a0, .int .i64 3] ?_; (with_reducible refine (impl_floorDiv.calls a0 3 t398 _ A9.out).mono ?_); rintro e w' ⟨rfl, ⟨nd, rfl⟩⟩; refine ⟨_, rfl, ?_⟩))
      go_ret2
      exact dsq
    ·rw [if_neg c12] at H
     have c12b0 : ((wrap64 (a0 - (wrap64 (3 * t398)))) == 2) = false := beq_eq_false_iff_ne.mpr c12
     have c12b1 : ((wrap64 (a0 - (wrap64 (3 * t398)))) != 2) = true := bne_iff_ne.mpr c12
     by_cases c14 : a2 = true
     ·subst c14
      replace H : (some (t398, t398)) = some (r1, r2) := by rw [if_pos rfl] at H; exact H
      simp only [Option.some.injEq, Prod.mk.injEq] at H
      obtain ⟨rfl, rfl⟩ := H
      go_enter Try.func102, Try.ntmps102
      go_wp2_with (first | ((with_reducible refine gate_callee (f := 169) rfl ?_); refine gl_ 24 Try.func169 #[.int .i64 a0, .int .i64 3] ?_; (with_reducible refine (impl_floorDiv.calls a0 3 t398 _ A9.out).mono ?_); rintro e w' ⟨rfl, ⟨nd, rfl⟩⟩; refine ⟨_, rfl, ?_⟩))
      go_ret2
      exact dsq
     ·replace c14 := Bool.eq_false_iff.mpr c14
      subst c14
      replace H : (some (t398, t398)) = some (r1, r2) := by rw [if_neg (show ¬ (false = true) by decide)] at H; exact H
      simp only [Option.some.injEq, Prod.mk.injEq] at H
      obtain ⟨rfl, rfl⟩ := H
      go_enter Try.func102, Try.ntmps102
      go_wp2_with (first | ((with_reducible refine gate_callee (f := 169) rfl ?_); refine gl_ 24 Try.func169 #[.int .i64 a0, .int .i64 3] ?_; (with_reducible refine (impl_floorDiv.calls a0 3 t398 _ A9.out).mono ?_); rintro e w' ⟨rfl, ⟨nd, rfl⟩⟩; refine ⟨_, rfl, ?_⟩))
      go_ret2
      exact dsq
  ·rw [if_neg c8] at H
   have c8b0 : (a1 == 2) = false := beq_eq_false_iff_ne.mpr c8
   have c8b1 : (a1 != 2) = true := bne_iff_ne.mpr c8
   by_cases c15 : a2 = true
   ·subst c15
    replace H : (some (a0, a0)) = some (r1, r2) := by rw [if_pos rfl] at H; exact H
    simp only [Option.some.injEq, Prod.mk.injEq] at H
    obtain ⟨rfl, rfl⟩ := H
    go_enter Try.func102, Try.ntmps102
    go_wp2
    go_ret2
    exact dsq
   ·replace c15 := Bool.eq_false_iff.mpr c15
    subst c15
    replace H : (some (a0, a0)) = some (r1, r2) := by rw [if_neg (show ¬ (false = true) by decide)] at H; exact H
    simp only [Option.some.injEq, Prod.mk.injEq] at H
    obtain ⟨rfl, rfl⟩ := H
    go_enter Try.func102, Try.ntmps102
    go_wp2
    go_ret2
    exact dsq

end Go.Proofs.Ythehhncokikgcaa.PFnExactPartOf
