-- Contracts of the functions that the law reaches, written by wip/xprint.py of this repo.
import Derived.Test.YthehhncokikgcaaPFnExactPartBoundsOfx0
import Derived.Test.YthehhncokikgcaaPFnExactPartBoundsOfx1
namespace Go.Proofs.Ythehhncokikgcaa.PFnExactPartBoundsOf
open Go.RowKit Go.Proofs.YthehhncokikgcaaW.PrintWords Go.Proofs.YthehhncokikgcaaW.PrintLast Go.Proofs.YthehhncokikgcaaW.PrintMore
attribute [local go_sem] max2_int min2_int max_two min_two max_three min_three max_four min_four   -- for this text's walks alone
set_option linter.unusedVariables false
set_option linter.unusedSimpArgs false

/-! ### spec_l1Ceil: function 137 -/
def spec_l1Ceil.f (a0 : Int) (a1 : Int) : Option (Int) := if a1 = 0 then (none) else (some (wrap64 (Int.tdiv (wrap64 ((wrap64 (a0 + a1)) - 1)) a1)))
set_option maxHeartbeats 8000000 in
set_option maxRecDepth 100000 in
theorem spec_l1Ceil.calls (a0 : Int) (a1 : Int) (r : Int) (w : World) (h : spec_l1Ceil.f a0 a1 = some r) :
  Calls Try.prog 137 #[.int .i64 a0, .int .i64 a1] w fun e w' => e = .returned (.int .i64 r) ∧ Drawn0 w w' := by
 have H : (if a1 = 0 then (none) else (some (wrap64 (Int.tdiv (wrap64 ((wrap64 (a0 + a1)) - 1)) a1)))) = some r := h
 clear h
 by_cases c3 : a1 = 0
 ·rw [if_pos c3] at H
  exact absurd H (by simp)
 ·rw [if_neg c3] at H
  have c3b0 : (a1 == 0) = false := beq_eq_false_iff_ne.mpr c3
  have c3b1 : (a1 != 0) = true := bne_iff_ne.mpr c3
  obtain rfl := Option.some.inj H
  go_enter Try.func137, Try.ntmps137
  go_wp2
  go_ret
  exact ⟨by first | rfl | (simp; done) | (simp [*]; done), by repeat (first | exact Drawn0.refl _ | apply Drawn0.step)⟩

/-! ### spec_l14Shaped: function 152 -/
def spec_l14Shaped.f (a0 : Int) (a1 : Int) (a2 : Int) : Option (Int) := (spec_l1Ceil.f (wrap64 (a0 + a1)) (wrap64 (8 - (wrap64 (2 * a2))))).bind fun t206 => (some (wrap64 ((wrap64 (t206 + a1)) + 1)))
set_option maxHeartbeats 8000000 in
set_option maxRecDepth 100000 in
theorem spec_l14Shaped.calls (a0 : Int) (a1 : Int) (a2 : Int) (r : Int) (w : World) (h : spec_l14Shaped.f a0 a1 a2 = some r) :
  Calls Try.prog 152 #[.int .i64 a0, .int .i64 a1, .int .i64 a2] w fun e w' => e = .returned (.int .i64 r) ∧ Drawn0 w w' := by
 have H : ((spec_l1Ceil.f (wrap64 (a0 + a1)) (wrap64 (8 - (wrap64 (2 * a2))))).bind fun t206 => (some (wrap64 ((wrap64 (t206 + a1)) + 1)))) = some r := h
 clear h
 replace H := Option.bind_eq_some_iff.mp H
 obtain ⟨t206, A40, H⟩ := H
 have A4 := Aside0.mk A40
 clear A40
 obtain rfl := Option.some.inj H
 go_enter Try.func152, Try.ntmps152
 go_wp2_with (first | ((with_reducible refine gate_callee (f := 137) rfl ?_); refine goesL_ (some 13) rfl rfl Try.func137 (by kernel_rfl) rfl #[.int .i64 (wrap64 (a0 + a1)), .int .i64 (wrap64 (8 - (wrap64 (2 * a2))))] rfl arq ?_; (with_reducible refine (spec_l1Ceil.calls (wrap64 (a0 + a1)) (wrap64 (8 - (wrap64 (2 * a2)))) t206 _ A4.out).mono ?_); rintro e w' ⟨rfl, ⟨nd, rfl⟩⟩; refine ⟨_, rfl, ?_⟩))
 go_ret
 exact ⟨by first | rfl | (simp; done) | (simp [*]; done), by repeat (first | exact Drawn0.refl _ | apply Drawn0.step)⟩

/-! ### spec_l10Off: function 167 -/
def spec_l10Off.f (a0 : Int) (a1 : Int) (a2 : Bool) : Option (Int) := if a1 = 2 then (if (((a0 == 1) != a2) = true) then (some a1) else (some 1)) else (some a1)
set_option maxHeartbeats 8000000 in
set_option maxRecDepth 100000 in
theorem spec_l10Off.calls (a0 : Int) (a1 : Int) (a2 : Bool) (r : Int) (w : World) (h : spec_l10Off.f a0 a1 a2 = some r) :
  Calls Try.prog 167 #[.int .i64 a0, .int .i64 a1, .bool a2] w fun e w' => e = .returned (.int .i64 r) ∧ Drawn0 w w' := by
 have H : (if a1 = 2 then (if (((a0 == 1) != a2) = true) then (some a1) else (some 1)) else (some a1)) = some r := h
 clear h
 by_cases c4 : a1 = 2
 ·rw [if_pos c4] at H
  have c4b0 : (a1 == 2) = true := beq_iff_eq.mpr c4
  have c4b1 : (a1 != 2) = false := bne_eq_false_iff_eq.mpr c4
  clear c4
  by_cases c5 : (((a0 == 1) != a2) = true)
  ·rw [if_pos c5] at H
   have c5b0 : ((a0 == 1) != a2) = true := c5
   (try (have c5b1 : decide ((a0 == 1) = a2) = false := by simpa using c5))
   (try (have c5b2 : ((a0 == 1) == a2) = false := by simpa using c5))
   (try (have c5b3 : ¬ ((a0 == 1) = a2) := by simpa using c5))
   clear c5
   obtain rfl := Option.some.inj H
   go_enter Try.func167, Try.ntmps167
   go_wp2
   go_ret
   exact ⟨by first | rfl | (simp; done) | (simp [*]; done), by repeat (first | exact Drawn0.refl _ | apply Drawn0.step)⟩
  ·rw [if_neg c5] at H
   have c5b0 : ((a0 == 1) != a2) = false := by simpa using c5
   (try (have c5b1 : decide ((a0 == 1) = a2) = true := by simpa using c5))
   (try (have c5b2 : ((a0 == 1) == a2) = true := by simpa using c5))
   clear c5
   obtain rfl := Option.some.inj H
   go_enter Try.func167, Try.ntmps167
   go_wp2
   go_ret
   exact ⟨by first | rfl | (simp; done) | (simp [*]; done), by repeat (first | exact Drawn0.refl _ | apply Drawn0.step)⟩
 ·rw [if_neg c4] at H
  have c4b0 : (a1 == 2) = false := beq_eq_false_iff_ne.mpr c4
  have c4b1 : (a1 != 2) = true := bne_iff_ne.mpr c4
  obtain rfl := Option.some.inj H
  go_enter Try.func167, Try.ntmps167
  go_wp2
  go_ret
  exact ⟨by first | rfl | (simp; done) | (simp [*]; done), by repeat (first | exact Drawn0.refl _ | apply Drawn0.step)⟩

end Go.Proofs.Ythehhncokikgcaa.PFnExactPartBoundsOf
