-- Contracts of the functions that the law reaches, written by wip/xprint.py of this repo.
import Derived.Test.YthehhncokikgcaaPFnExactPartBoundsOfx0
import Derived.Test.YthehhncokikgcaaPFnExactPartBoundsOfx1
namespace Go.Proofs.Ythehhncokikgcaa.PFnExactPartBoundsOf
open Go.RowKit Go.Proofs.YthehhncokikgcaaW.PrintWords Go.Proofs.YthehhncokikgcaaW.PrintLast Go.Proofs.YthehhncokikgcaaW.PrintMore
attribute [local go_sem] max2_int min2_int max_two min_two max_three min_three max_four min_four   -- for this text's walks alone
set_option linter.unusedVariables false
set_option linter.unusedSimpArgs false

/-! ### impl_spreadOf: function 93 -/
def impl_spreadOf.f (a0 : Int) (a1 : Int) (a2 : Bool) : Option (Int) := if a1 = 2 then (if ((a0 == 0) == a2) = true then (some 2) else (some (mn a1 1))) else (some (mn a1 1))
set_option maxHeartbeats 8000000 in
set_option maxRecDepth 100000 in
theorem impl_spreadOf.calls (a0 : Int) (a1 : Int) (a2 : Bool) (r : Int) (w : World) (h : impl_spreadOf.f a0 a1 a2 = some r) :
  Calls Try.prog 93 #[.int .i64 a0, .int .i64 a1, .bool a2] w fun e w' => e = .returned (.int .i64 r) ∧ Below w.heap.size w w' := by
 have HB := Aside0.mk (Below.refl w.heap.size w)
 have H : (if a1 = 2 then (if ((a0 == 0) == a2) = true then (some 2) else (some (mn a1 1))) else (some (mn a1 1))) = some r := h
 clear h
 by_cases c4 : a1 = 2
 ·rw [if_pos c4] at H
  have c4b0 : (a1 == 2) = true := beq_iff_eq.mpr c4
  have c4b1 : (a1 != 2) = false := bne_eq_false_iff_eq.mpr c4
  clear c4
  by_cases c5 : ((a0 == 0) == a2) = true
  ·rw [if_pos c5] at H
   have c5b0 : ((a0 == 0) == a2) = true := c5
   (try (have c5b1 : decide ((a0 == 0) = a2) = true := by simpa using c5))
   (try (have c5b2 : ((a0 == 0) == a2) = true := by simpa using c5))
   clear c5
   obtain rfl := Option.some.inj H
   go_enter Try.func93, Try.ntmps93
   go_wp2
   go_ret
   exact ⟨enq, bnw⟩
  ·rw [if_neg c5] at H
   have c5b0 : ((a0 == 0) == a2) = false := by simpa using c5
   (try (have c5b1 : decide ((a0 == 0) = a2) = false := by simpa using c5))
   (try (have c5b2 : ((a0 == 0) == a2) = false := by simpa using c5))
   (try (have c5b3 : ¬ ((a0 == 0) = a2) := by simpa using c5))
   clear c5
   obtain ⟨ji6, hji6⟩ : ∃ j_ : Int, (mn a1 1) = j_ := ⟨_, rfl⟩
   replace H : (some ji6) = some r := by first | (rw [hji6] at H; exact H) | (simp only [hji6] at H ⊢; exact H)
   (try (have hji6h : ji6 ≤ 1 := by (rw [← hji6]; unfold mn; (repeat' split) <;> omega)))
   (try (have hji6g : ji6 ≤ 64 := by omega))
   have hji6_ : (if 1 < a1 then 1 else a1) = ji6 := hji6
   obtain rfl := Option.some.inj H
   go_enter Try.func93, Try.ntmps93
   go_wp2
   go_ret
   exact ⟨by first | rfl | (simp [errW_none, errW_some] <;> rfl) | (simp only [← hji6]; first | rfl | (simp [errW_none, errW_some] <;> rfl)) | (simp [*, errW_none, errW_some] <;> rfl), bnw⟩
 ·rw [if_neg c4] at H
  have c4b0 : (a1 == 2) = false := beq_eq_false_iff_ne.mpr c4
  have c4b1 : (a1 != 2) = true := bne_iff_ne.mpr c4
  obtain ⟨ji7, hji7⟩ : ∃ j_ : Int, (mn a1 1) = j_ := ⟨_, rfl⟩
  replace H : (some ji7) = some r := by first | (rw [hji7] at H; exact H) | (simp only [hji7] at H ⊢; exact H)
  (try (have hji7h : ji7 ≤ 1 := by (rw [← hji7]; unfold mn; (repeat' split) <;> omega)))
  (try (have hji7g : ji7 ≤ 64 := by omega))
  have hji7_ : (if 1 < a1 then 1 else a1) = ji7 := hji7
  obtain rfl := Option.some.inj H
  go_enter Try.func93, Try.ntmps93
  go_wp2
  go_ret
  exact ⟨by first | rfl | (simp [errW_none, errW_some] <;> rfl) | (simp only [← hji7]; first | rfl | (simp [errW_none, errW_some] <;> rfl)) | (simp [*, errW_none, errW_some] <;> rfl), bnw⟩

/-! ### impl_isTurned: function 94 -/
def impl_isTurned.f (a0 : Int) : Option (Bool) := some ((Int.tmod a0 2) == 1)
set_option maxHeartbeats 8000000 in
set_option maxRecDepth 100000 in
theorem impl_isTurned.calls (a0 : Int) (r : Bool) (w : World) (h : impl_isTurned.f a0 = some r) :
  Calls Try.prog 94 #[.int .i64 a0] w fun e w' => e = .returned (.bool r) ∧ Drawn0 w w' := by
 have H : (some ((Int.tmod a0 2) == 1)) = some r := h
 clear h
 obtain rfl := Option.some.inj H
 go_enter Try.func94, Try.ntmps94
 go_wp2
 go_ret
 exact ⟨by first | rfl | (simp; done) | (simp [*]; done), by repeat (first | exact Drawn0.refl _ | apply Drawn0.step)⟩

end Go.Proofs.Ythehhncokikgcaa.PFnExactPartBoundsOf
