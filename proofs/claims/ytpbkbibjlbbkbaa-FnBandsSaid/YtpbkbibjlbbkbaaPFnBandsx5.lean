-- Contracts of the functions that the law reaches, written by wip/xprint.py of this repo.
import Derived.Test.YtpbkbibjlbbkbaaPFnBandsx0
import Derived.Test.YtpbkbibjlbbkbaaPFnBandsx4
namespace Go.Proofs.Ytpbkbibjlbbkbaa.PFnBands
open Go.RowKit Go.Proofs.YtpbkbibjlbbkbaaW.PrintWords Go.Proofs.YtpbkbibjlbbkbaaW.PrintLast Go.Proofs.YtpbkbibjlbbkbaaW.PrintMore
attribute [local go_sem] max2_int min2_int max_two min_two max_three min_three max_four min_four   -- for this text's walks alone
set_option linter.unusedVariables false
set_option linter.unusedSimpArgs false

/-! ### spec_l5P: function 223 -/
def spec_l5P.f (a0 : Int) (a1 : Int) : Option (Int) := if (wrap64 ((wrap64 (a0 * 16)) + a1)) = 64 then (some 101) else (if (wrap64 ((wrap64 (a0 * 16)) + a1)) = 65 then (some 311) else (if (wrap64 ((wrap64 (a0 * 16)) + a1)) = 128 then (some 50) else (if (wrap64 ((wrap64 (a0 * 16)) + a1)) = 129 then (some 152) else (if (wrap64 ((wrap64 (a0 * 16)) + a1)) = 130 then (some 257) else (if (wrap64 ((wrap64 (a0 * 16)) + a1)) = 131 then (some 366) else (if (wrap64 ((wrap64 (a0 * 16)) + a1)) = 256 then (some 25) else (if (wrap64 ((wrap64 (a0 * 16)) + a1)) = 257 then (some 76) else (if (wrap64 ((wrap64 (a0 * 16)) + a1)) = 258 then (some 126) else (if (wrap64 ((wrap64 (a0 * 16)) + a1)) = 259 then (some 178) else (if (wrap64 ((wrap64 (a0 * 16)) + a1)) = 260 then (some 230) else (if (wrap64 ((wrap64 (a0 * 16)) + a1)) = 261 then (some 283) else (if (wrap64 ((wrap64 (a0 * 16)) + a1)) = 262 then (some 338) else (some 395)))))))))))))
set_option maxHeartbeats 8000000 in
set_option maxRecDepth 100000 in
theorem spec_l5P.calls (a0 : Int) (a1 : Int) (r : Int) (w : World) (h : spec_l5P.f a0 a1 = some r) :
  Calls Try.prog 223 #[.int .i64 a0, .int .i64 a1] w fun e w' => e = .returned (.int .i64 r) ∧ Drawn0 w w' := by
 have H : (if (wrap64 ((wrap64 (a0 * 16)) + a1)) = 64 then (some 101) else (if (wrap64 ((wrap64 (a0 * 16)) + a1)) = 65 then (some 311) else (if (wrap64 ((wrap64 (a0 * 16)) + a1)) = 128 then (some 50) else (if (wrap64 ((wrap64 (a0 * 16)) + a1)) = 129 then (some 152) else (if (wrap64 ((wrap64 (a0 * 16)) + a1)) = 130 then (some 257) else (if (wrap64 ((wrap64 (a0 * 16)) + a1)) = 131 then (some 366) else (if (wrap64 ((wrap64 (a0 * 16)) + a1)) = 256 then (some 25) else (if (wrap64 ((wrap64 (a0 * 16)) + a1)) = 257 then (some 76) else (if (wrap64 ((wrap64 (a0 * 16)) + a1)) = 258 then (some 126) else (if (wrap64 ((wrap64 (a0 * 16)) + a1)) = 259 then (some 178) else (if (wrap64 ((wrap64 (a0 * 16)) + a1)) = 260 then (some 230) else (if (wrap64 ((wrap64 (a0 * 16)) + a1)) = 261 then (some 283) else (if (wrap64 ((wrap64 (a0 * 16)) + a1)) = 262 then (some 338) else (some 395)))))))))))))) = some r := h
 clear h
 by_cases c3 : (wrap64 ((wrap64 (a0 * 16)) + a1)) = 64
 ·rw [if_pos c3] at H
  have c3b0 : ((wrap64 ((wrap64 (a0 * 16)) + a1)) == 64) = true := beq_iff_eq.mpr c3
  have c3b1 : ((wrap64 ((wrap64 (a0 * 16)) + a1)) != 64) = false := bne_eq_false_iff_eq.mpr c3
  clear c3
  obtain rfl := Option.some.inj H
  go_enter Try.func223, Try.ntmps223
  go_wp2
  go_ret
  exact ⟨by first | rfl | (simp; done) | (simp [*]; done), by repeat (first | exact Drawn0.refl _ | apply Drawn0.step)⟩
 ·rw [if_neg c3] at H
  have c3b0 : ((wrap64 ((wrap64 (a0 * 16)) + a1)) == 64) = false := beq_eq_false_iff_ne.mpr c3
  have c3b1 : ((wrap64 ((wrap64 (a0 * 16)) + a1)) != 64) = true := bne_iff_ne.mpr c3
  by_cases c4 : (wrap64 ((wrap64 (a0 * 16)) + a1)) = 65
  ·rw [if_pos c4] at H
   have c4b0 : ((wrap64 ((wrap64 (a0 * 16)) + a1)) == 65) = true := beq_iff_eq.mpr c4
   have c4b1 : ((wrap64 ((wrap64 (a0 * 16)) + a1)) != 65) = false := bne_eq_false_iff_eq.mpr c4
   clear c4
   obtain rfl := Option.some.inj H
   go_enter Try.func223, Try.ntmps223
   go_wp2
   go_ret
   exact ⟨by first | rfl | (simp; done) | (simp [*]; done), by repeat (first | exact Drawn0.refl _ | apply Drawn0.step)⟩
  ·rw [if_neg c4] at H
   have c4b0 : ((wrap64 ((wrap64 (a0 * 16)) + a1)) == 65) = false := beq_eq_false_iff_ne.mpr c4
   have c4b1 : ((wrap64 ((wrap64 (a0 * 16)) + a1)) != 65) = true := bne_iff_ne.mpr c4
   by_cases c5 : (wrap64 ((wrap64 (a0 * 16)) + a1)) = 128
   ·rw [if_pos c5] at H
    have c5b0 : ((wrap64 ((wrap64 (a0 * 16)) + a1)) == 128) = true := beq_iff_eq.mpr c5
    have c5b1 : ((wrap64 ((wrap64 (a0 * 16)) + a1)) != 128) = false := bne_eq_false_iff_eq.mpr c5
    clear c5
    obtain rfl := Option.some.inj H
    go_enter Try.func223, Try.ntmps223
    go_wp2
    go_ret
    exact ⟨by first | rfl | (simp; done) | (simp [*]; done), by repeat (first | exact Drawn0.refl _ | apply Drawn0.step)⟩
   ·rw [if_neg c5] at H
    have c5b0 : ((wrap64 ((wrap64 (a0 * 16)) + a1)) == 128) = false := beq_eq_false_iff_ne.mpr c5
    have c5b1 : ((wrap64 ((wrap64 (a0 * 16)) + a1)) != 128) = true := bne_iff_ne.mpr c5
    by_cases c6 : (wrap64 ((wrap64 (a0 * 16)) + a1)) = 129
    ·rw [if_pos c6] at H
     have c6b0 : ((wrap64 ((wrap64 (a0 * 16)) + a1)) == 129) = true := beq_iff_eq.mpr c6
     have c6b1 : ((wrap64 ((wrap64 (a0 * 16)) + a1)) != 129) = false := bne_eq_false_iff_eq.mpr c6
     clear c6
     obtain rfl := Option.some.inj H
     go_enter Try.func223, Try.ntmps223
     go_wp2
     go_ret
     exact ⟨by first | rfl | (simp; done) | (simp [*]; done), by repeat (first | exact Drawn0.refl _ | apply Drawn0.step)⟩
    ·rw [if_neg c6] at H
     have c6b0 : ((wrap64 ((wrap64 (a0 * 16)) + a1)) == 129) = false := beq_eq_false_iff_ne.mpr c6
     have c6b1 : ((wrap64 ((wrap64 (a0 * 16)) + a1)) != 129) = true := bne_iff_ne.mpr c6
     by_cases c7 : (wrap64 ((wrap64 (a0 * 16)) + a1)) = 130
     ·rw [if_pos c7] at H
      have c7b0 : ((wrap64 ((wrap64 (a0 * 16)) + a1)) == 130) = true := beq_iff_eq.mpr c7
      have c7b1 : ((wrap64 ((wrap64 (a0 * 16)) + a1)) != 130) = false := bne_eq_false_iff_eq.mpr c7
      clear c7
      obtain rfl := Option.some.inj H
      go_enter Try.func223, Try.ntmps223
      go_wp2
      go_ret
      exact ⟨by first | rfl | (simp; done) | (simp [*]; done), by repeat (first | exact Drawn0.refl _ | apply Drawn0.step)⟩
     ·rw [if_neg c7] at H
      have c7b0 : ((wrap64 ((wrap64 (a0 * 16)) + a1)) == 130) = false := beq_eq_false_iff_ne.mpr c7
      have c7b1 : ((wrap64 ((wrap64 (a0 * 16)) + a1)) != 130) = true := bne_iff_ne.mpr c7
      by_cases c8 : (wrap64 ((wrap64 (a0 * 16)) + a1)) = 131
      ·rw [if_pos c8] at H
       have c8b0 : ((wrap64 ((wrap64 (a0 * 16)) + a1)) == 131) = true := beq_iff_eq.mpr c8
       have c8b1 : ((wrap64 ((wrap64 (a0 * 16)) + a1)) != 131) = false := bne_eq_false_iff_eq.mpr c8
       clear c8
       obtain rfl := Option.some.inj H
       go_enter Try.func223, Try.ntmps223
       go_wp2
       go_ret
       exact ⟨by first | rfl | (simp; done) | (simp [*]; done), by repeat (first | exact Drawn0.refl _ | apply Drawn0.step)⟩
      ·rw [if_neg c8] at H
       have c8b0 : ((wrap64 ((wrap64 (a0 * 16)) + a1)) == 131) = false := beq_eq_false_iff_ne.mpr c8
       have c8b1 : ((wrap64 ((wrap64 (a0 * 16)) + a1)) != 131) = true := bne_iff_ne.mpr c8
       by_cases c9 : (wrap64 ((wrap64 (a0 * 16)) + a1)) = 256
       ·rw [if_pos c9] at H
        have c9b0 : ((wrap64 ((wrap64 (a0 * 16)) + a1)) == 256) = true := beq_iff_eq.mpr c9
        have c9b1 : ((wrap64 ((wrap64 (a0 * 16)) + a1)) != 256) = false := bne_eq_false_iff_eq.mpr c9
        clear c9
        obtain rfl := Option.some.inj H
        go_enter Try.func223, Try.ntmps223
        go_wp2
        go_ret
        exact ⟨by first | rfl | (simp; done) | (simp [*]; done), by repeat (first | exact Drawn0.refl _ | apply Drawn0.step)⟩
       ·rw [if_neg c9] at H
        have c9b0 : ((wrap64 ((wrap64 (a0 * 16)) + a1)) == 256) = false := beq_eq_false_iff_ne.mpr c9
        have c9b1 : ((wrap64 ((wrap64 (a0 * 16)) + a1)) != 256) = true := bne_iff_ne.mpr c9
        by_cases c10 : (wrap64 ((wrap64 (a0 * 16)) + a1)) = 257
        ·rw [if_pos c10] at H
         have c10b0 : ((wrap64 ((wrap64 (a0 * 16)) + a1)) == 257) = true := beq_iff_eq.mpr c10
         have c10b1 : ((wrap64 ((wrap64 (a0 * 16)) + a1)) != 257) = false := bne_eq_false_iff_eq.mpr c10
         clear c10
         obtain rfl := Option.some.inj H
         go_enter Try.func223, Try.ntmps223
         go_wp2
         go_ret
         exact ⟨by first | rfl | (simp; done) | (simp [*]; done), by repeat (first | exact Drawn0.refl _ | apply Drawn0.step)⟩
        ·rw [if_neg c10] at H
         have c10b0 : ((wrap64 ((wrap64 (a0 * 16)) + a1)) == 257) = false := beq_eq_false_iff_ne.mpr c10
         have c10b1 : ((wrap64 ((wrap64 (a0 * 16)) + a1)) != 257) = true := bne_iff_ne.mpr c10
         by_cases c11 : (wrap64 ((wrap64 (a0 * 16)) + a1)) = 258
         ·rw [if_pos c11] at H
          have c11b0 : ((wrap64 ((wrap64 (a0 * 16)) + a1)) == 258) = true := beq_iff_eq.mpr c11
          have c11b1 : ((wrap64 ((wrap64 (a0 * 16)) + a1)) != 258) = false := bne_eq_false_iff_eq.mpr c11
          clear c11
          obtain rfl := Option.some.inj H
          go_enter Try.func223, Try.ntmps223
          go_wp2
          go_ret
          exact ⟨by first | rfl | (simp; done) | (simp [*]; done), by repeat (first | exact Drawn0.refl _ | apply Drawn0.step)⟩
         ·rw [if_neg c11] at H
          have c11b0 : ((wrap64 ((wrap64 (a0 * 16)) + a1)) == 258) = false := beq_eq_false_iff_ne.mpr c11
          have c11b1 : ((wrap64 ((wrap64 (a0 * 16)) + a1)) != 258) = true := bne_iff_ne.mpr c11
          by_cases c12 : (wrap64 ((wrap64 (a0 * 16)) + a1)) = 259
          ·rw [if_pos c12] at H
           have c12b0 : ((wrap64 ((wrap64 (a0 * 16)) + a1)) == 259) = true := beq_iff_eq.mpr c12
           have c12b1 : ((wrap64 ((wrap64 (a0 * 16)) + a1)) != 259) = false := bne_eq_false_iff_eq.mpr c12
           clear c12
           obtain rfl := Option.some.inj H
           go_enter Try.func223, Try.ntmps223
           go_wp2
           go_ret
           exact ⟨by first | rfl | (simp; done) | (simp [*]; done), by repeat (first | exact Drawn0.refl _ | apply Drawn0.step)⟩
          ·rw [if_neg c12] at H
           have c12b0 : ((wrap64 ((wrap64 (a0 * 16)) + a1)) == 259) = false := beq_eq_false_iff_ne.mpr c12
           have c12b1 : ((wrap64 ((wrap64 (a0 * 16)) + a1)) != 259) = true := bne_iff_ne.mpr c12
           by_cases c13 : (wrap64 ((wrap64 (a0 * 16)) + a1)) = 260
           ·rw [if_pos c13] at H
            have c13b0 : ((wrap64 ((wrap64 (a0 * 16)) + a1)) == 260) = true := beq_iff_eq.mpr c13
            have c13b1 : ((wrap64 ((wrap64 (a0 * 16)) + a1)) != 260) = false := bne_eq_false_iff_eq.mpr c13
            clear c13
            obtain rfl := Option.some.inj H
            go_enter Try.func223, Try.ntmps223
            go_wp2
            go_ret
            exact ⟨by first | rfl | (simp; done) | (simp [*]; done), by repeat (first | exact Drawn0.refl _ | apply Drawn0.step)⟩
           ·rw [if_neg c13] at H
            have c13b0 : ((wrap64 ((wrap64 (a0 * 16)) + a1)) == 260) = false := beq_eq_false_iff_ne.mpr c13
            have c13b1 : ((wrap64 ((wrap64 (a0 * 16)) + a1)) != 260) = true := bne_iff_ne.mpr c13
            by_cases c14 : (wrap64 ((wrap64 (a0 * 16)) + a1)) = 261
            ·rw [if_pos c14] at H
             have c14b0 : ((wrap64 ((wrap64 (a0 * 16)) + a1)) == 261) = true := beq_iff_eq.mpr c14
             have c14b1 : ((wrap64 ((wrap64 (a0 * 16)) + a1)) != 261) = false := bne_eq_false_iff_eq.mpr c14
             clear c14
             obtain rfl := Option.some.inj H
             go_enter Try.func223, Try.ntmps223
             go_wp2
             go_ret
             exact ⟨by first | rfl | (simp; done) | (simp [*]; done), by repeat (first | exact Drawn0.refl _ | apply Drawn0.step)⟩
            ·rw [if_neg c14] at H
             have c14b0 : ((wrap64 ((wrap64 (a0 * 16)) + a1)) == 261) = false := beq_eq_false_iff_ne.mpr c14
             have c14b1 : ((wrap64 ((wrap64 (a0 * 16)) + a1)) != 261) = true := bne_iff_ne.mpr c14
             by_cases c15 : (wrap64 ((wrap64 (a0 * 16)) + a1)) = 262
             ·rw [if_pos c15] at H
              have c15b0 : ((wrap64 ((wrap64 (a0 * 16)) + a1)) == 262) = true := beq_iff_eq.mpr c15
              have c15b1 : ((wrap64 ((wrap64 (a0 * 16)) + a1)) != 262) = false := bne_eq_false_iff_eq.mpr c15
              clear c15
              obtain rfl := Option.some.inj H
              go_enter Try.func223, Try.ntmps223
              go_wp2
              go_ret
              exact ⟨by first | rfl | (simp; done) | (simp [*]; done), by repeat (first | exact Drawn0.refl _ | apply Drawn0.step)⟩
             ·rw [if_neg c15] at H
              have c15b0 : ((wrap64 ((wrap64 (a0 * 16)) + a1)) == 262) = false := beq_eq_false_iff_ne.mpr c15
              have c15b1 : ((wrap64 ((wrap64 (a0 * 16)) + a1)) != 262) = true := bne_iff_ne.mpr c15
              obtain rfl := Option.some.inj H
              go_enter Try.func223, Try.ntmps223
              go_wp2
              go_ret
              exact ⟨by first | rfl | (simp; done) | (simp [*]; done), by repeat (first | exact Drawn0.refl _ | apply Drawn0.step)⟩

/-! ### spec_l5U: function 224 -/
def spec_l5U.f (a0 : Int) (a1 : Int) : Option (Int) := if (wrap64 ((wrap64 (a0 * 16)) + a1)) = 64 then (some 200) else (if (wrap64 ((wrap64 (a0 * 16)) + a1)) = 65 then (some 569) else (if (wrap64 ((wrap64 (a0 * 16)) + a1)) = 128 then (some 100) else (if (wrap64 ((wrap64 (a0 * 16)) + a1)) = 129 then (some 297) else (if (wrap64 ((wrap64 (a0 * 16)) + a1)) = 130 then (some 483) else (if (wrap64 ((wrap64 (a0 * 16)) + a1)) = 131 then (some 650) else (if (wrap64 ((wrap64 (a0 * 16)) + a1)) = 256 then (some 50) else (if (wrap64 ((wrap64 (a0 * 16)) + a1)) = 257 then (some 150) else (if (wrap64 ((wrap64 (a0 * 16)) + a1)) = 258 then (some 249) else (if (wrap64 ((wrap64 (a0 * 16)) + a1)) = 259 then (some 345) else (if (wrap64 ((wrap64 (a0 * 16)) + a1)) = 260 then (some 438) else (if (wrap64 ((wrap64 (a0 * 16)) + a1)) = 261 then (some 526) else (if (wrap64 ((wrap64 (a0 * 16)) + a1)) = 262 then (some 610) else (some 688)))))))))))))
set_option maxHeartbeats 8000000 in
set_option maxRecDepth 100000 in
theorem spec_l5U.calls (a0 : Int) (a1 : Int) (r : Int) (w : World) (h : spec_l5U.f a0 a1 = some r) :
  Calls Try.prog 224 #[.int .i64 a0, .int .i64 a1] w fun e w' => e = .returned (.int .i64 r) ∧ Drawn0 w w' := by
 have H : (if (wrap64 ((wrap64 (a0 * 16)) + a1)) = 64 then (some 200) else (if (wrap64 ((wrap64 (a0 * 16)) + a1)) = 65 then (some 569) else (if (wrap64 ((wrap64 (a0 * 16)) + a1)) = 128 then (some 100) else (if (wrap64 ((wrap64 (a0 * 16)) + a1)) = 129 then (some 297) else (if (wrap64 ((wrap64 (a0 * 16)) + a1)) = 130 then (some 483) else (if (wrap64 ((wrap64 (a0 * 16)) + a1)) = 131 then (some 650) else (if (wrap64 ((wrap64 (a0 * 16)) + a1)) = 256 then (some 50) else (if (wrap64 ((wrap64 (a0 * 16)) + a1)) = 257 then (some 150) else (if (wrap64 ((wrap64 (a0 * 16)) + a1)) = 258 then (some 249) else (if (wrap64 ((wrap64 (a0 * 16)) + a1)) = 259 then (some 345) else (if (wrap64 ((wrap64 (a0 * 16)) + a1)) = 260 then (some 438) else (if (wrap64 ((wrap64 (a0 * 16)) + a1)) = 261 then (some 526) else (if (wrap64 ((wrap64 (a0 * 16)) + a1)) = 262 then (some 610) else (some 688)))))))))))))) = some r := h
 clear h
 by_cases c3 : (wrap64 ((wrap64 (a0 * 16)) + a1)) = 64
 ·rw [if_pos c3] at H
  have c3b0 : ((wrap64 ((wrap64 (a0 * 16)) + a1)) == 64) = true := beq_iff_eq.mpr c3
  have c3b1 : ((wrap64 ((wrap64 (a0 * 16)) + a1)) != 64) = false := bne_eq_false_iff_eq.mpr c3
  clear c3
  obtain rfl := Option.some.inj H
  go_enter Try.func224, Try.ntmps224
  go_wp2
  go_ret
  exact ⟨by first | rfl | (simp; done) | (simp [*]; done), by repeat (first | exact Drawn0.refl _ | apply Drawn0.step)⟩
 ·rw [if_neg c3] at H
  have c3b0 : ((wrap64 ((wrap64 (a0 * 16)) + a1)) == 64) = false := beq_eq_false_iff_ne.mpr c3
  have c3b1 : ((wrap64 ((wrap64 (a0 * 16)) + a1)) != 64) = true := bne_iff_ne.mpr c3
  by_cases c4 : (wrap64 ((wrap64 (a0 * 16)) + a1)) = 65
  ·rw [if_pos c4] at H
   have c4b0 : ((wrap64 ((wrap64 (a0 * 16)) + a1)) == 65) = true := beq_iff_eq.mpr c4
   have c4b1 : ((wrap64 ((wrap64 (a0 * 16)) + a1)) != 65) = false := bne_eq_false_iff_eq.mpr c4
   clear c4
   obtain rfl := Option.some.inj H
   go_enter Try.func224, Try.ntmps224
   go_wp2
   go_ret
   exact ⟨by first | rfl | (simp; done) | (simp [*]; done), by repeat (first | exact Drawn0.refl _ | apply Drawn0.step)⟩
  ·rw [if_neg c4] at H
   have c4b0 : ((wrap64 ((wrap64 (a0 * 16)) + a1)) == 65) = false := beq_eq_false_iff_ne.mpr c4
   have c4b1 : ((wrap64 ((wrap64 (a0 * 16)) + a1)) != 65) = true := bne_iff_ne.mpr c4
   by_cases c5 : (wrap64 ((wrap64 (a0 * 16)) + a1)) = 128
   ·rw [if_pos c5] at H
    have c5b0 : ((wrap64 ((wrap64 (a0 * 16)) + a1)) == 128) = true := beq_iff_eq.mpr c5
    have c5b1 : ((wrap64 ((wrap64 (a0 * 16)) + a1)) != 128) = false := bne_eq_false_iff_eq.mpr c5
    clear c5
    obtain rfl := Option.some.inj H
    go_enter Try.func224, Try.ntmps224
    go_wp2
    go_ret
    exact ⟨by first | rfl | (simp; done) | (simp [*]; done), by repeat (first | exact Drawn0.refl _ | apply Drawn0.step)⟩
   ·rw [if_neg c5] at H
    have c5b0 : ((wrap64 ((wrap64 (a0 * 16)) + a1)) == 128) = false := beq_eq_false_iff_ne.mpr c5
    have c5b1 : ((wrap64 ((wrap64 (a0 * 16)) + a1)) != 128) = true := bne_iff_ne.mpr c5
    by_cases c6 : (wrap64 ((wrap64 (a0 * 16)) + a1)) = 129
    ·rw [if_pos c6] at H
     have c6b0 : ((wrap64 ((wrap64 (a0 * 16)) + a1)) == 129) = true := beq_iff_eq.mpr c6
     have c6b1 : ((wrap64 ((wrap64 (a0 * 16)) + a1)) != 129) = false := bne_eq_false_iff_eq.mpr c6
     clear c6
     obtain rfl := Option.some.inj H
     go_enter Try.func224, Try.ntmps224
     go_wp2
     go_ret
     exact ⟨by first | rfl | (simp; done) | (simp [*]; done), by repeat (first | exact Drawn0.refl _ | apply Drawn0.step)⟩
    ·rw [if_neg c6] at H
     have c6b0 : ((wrap64 ((wrap64 (a0 * 16)) + a1)) == 129) = false := beq_eq_false_iff_ne.mpr c6
     have c6b1 : ((wrap64 ((wrap64 (a0 * 16)) + a1)) != 129) = true := bne_iff_ne.mpr c6
     by_cases c7 : (wrap64 ((wrap64 (a0 * 16)) + a1)) = 130
     ·rw [if_pos c7] at H
      have c7b0 : ((wrap64 ((wrap64 (a0 * 16)) + a1)) == 130) = true := beq_iff_eq.mpr c7
      have c7b1 : ((wrap64 ((wrap64 (a0 * 16)) + a1)) != 130) = false := bne_eq_false_iff_eq.mpr c7
      clear c7
      obtain rfl := Option.some.inj H
      go_enter Try.func224, Try.ntmps224
      go_wp2
      go_ret
      exact ⟨by first | rfl | (simp; done) | (simp [*]; done), by repeat (first | exact Drawn0.refl _ | apply Drawn0.step)⟩
     ·rw [if_neg c7] at H
      have c7b0 : ((wrap64 ((wrap64 (a0 * 16)) + a1)) == 130) = false := beq_eq_false_iff_ne.mpr c7
      have c7b1 : ((wrap64 ((wrap64 (a0 * 16)) + a1)) != 130) = true := bne_iff_ne.mpr c7
      by_cases c8 : (wrap64 ((wrap64 (a0 * 16)) + a1)) = 131
      ·rw [if_pos c8] at H
       have c8b0 : ((wrap64 ((wrap64 (a0 * 16)) + a1)) == 131) = true := beq_iff_eq.mpr c8
       have c8b1 : ((wrap64 ((wrap64 (a0 * 16)) + a1)) != 131) = false := bne_eq_false_iff_eq.mpr c8
       clear c8
       obtain rfl := Option.some.inj H
       go_enter Try.func224, Try.ntmps224
       go_wp2
       go_ret
       exact ⟨by first | rfl | (simp; done) | (simp [*]; done), by repeat (first | exact Drawn0.refl _ | apply Drawn0.step)⟩
      ·rw [if_neg c8] at H
       have c8b0 : ((wrap64 ((wrap64 (a0 * 16)) + a1)) == 131) = false := beq_eq_false_iff_ne.mpr c8
       have c8b1 : ((wrap64 ((wrap64 (a0 * 16)) + a1)) != 131) = true := bne_iff_ne.mpr c8
       by_cases c9 : (wrap64 ((wrap64 (a0 * 16)) + a1)) = 256
       ·rw [if_pos c9] at H
        have c9b0 : ((wrap64 ((wrap64 (a0 * 16)) + a1)) == 256) = true := beq_iff_eq.mpr c9
        have c9b1 : ((wrap64 ((wrap64 (a0 * 16)) + a1)) != 256) = false := bne_eq_false_iff_eq.mpr c9
        clear c9
        obtain rfl := Option.some.inj H
        go_enter Try.func224, Try.ntmps224
        go_wp2
        go_ret
        exact ⟨by first | rfl | (simp; done) | (simp [*]; done), by repeat (first | exact Drawn0.refl _ | apply Drawn0.step)⟩
       ·rw [if_neg c9] at H
        have c9b0 : ((wrap64 ((wrap64 (a0 * 16)) + a1)) == 256) = false := beq_eq_false_iff_ne.mpr c9
        have c9b1 : ((wrap64 ((wrap64 (a0 * 16)) + a1)) != 256) = true := bne_iff_ne.mpr c9
        by_cases c10 : (wrap64 ((wrap64 (a0 * 16)) + a1)) = 257
        ·rw [if_pos c10] at H
         have c10b0 : ((wrap64 ((wrap64 (a0 * 16)) + a1)) == 257) = true := beq_iff_eq.mpr c10
         have c10b1 : ((wrap64 ((wrap64 (a0 * 16)) + a1)) != 257) = false := bne_eq_false_iff_eq.mpr c10
         clear c10
         obtain rfl := Option.some.inj H
         go_enter Try.func224, Try.ntmps224
         go_wp2
         go_ret
         exact ⟨by first | rfl | (simp; done) | (simp [*]; done), by repeat (first | exact Drawn0.refl _ | apply Drawn0.step)⟩
        ·rw [if_neg c10] at H
         have c10b0 : ((wrap64 ((wrap64 (a0 * 16)) + a1)) == 257) = false := beq_eq_false_iff_ne.mpr c10
         have c10b1 : ((wrap64 ((wrap64 (a0 * 16)) + a1)) != 257) = true := bne_iff_ne.mpr c10
         by_cases c11 : (wrap64 ((wrap64 (a0 * 16)) + a1)) = 258
         ·rw [if_pos c11] at H
          have c11b0 : ((wrap64 ((wrap64 (a0 * 16)) + a1)) == 258) = true := beq_iff_eq.mpr c11
          have c11b1 : ((wrap64 ((wrap64 (a0 * 16)) + a1)) != 258) = false := bne_eq_false_iff_eq.mpr c11
          clear c11
          obtain rfl := Option.some.inj H
          go_enter Try.func224, Try.ntmps224
          go_wp2
          go_ret
          exact ⟨by first | rfl | (simp; done) | (simp [*]; done), by repeat (first | exact Drawn0.refl _ | apply Drawn0.step)⟩
         ·rw [if_neg c11] at H
          have c11b0 : ((wrap64 ((wrap64 (a0 * 16)) + a1)) == 258) = false := beq_eq_false_iff_ne.mpr c11
          have c11b1 : ((wrap64 ((wrap64 (a0 * 16)) + a1)) != 258) = true := bne_iff_ne.mpr c11
          by_cases c12 : (wrap64 ((wrap64 (a0 * 16)) + a1)) = 259
          ·rw [if_pos c12] at H
           have c12b0 : ((wrap64 ((wrap64 (a0 * 16)) + a1)) == 259) = true := beq_iff_eq.mpr c12
           have c12b1 : ((wrap64 ((wrap64 (a0 * 16)) + a1)) != 259) = false := bne_eq_false_iff_eq.mpr c12
           clear c12
           obtain rfl := Option.some.inj H
           go_enter Try.func224, Try.ntmps224
           go_wp2
           go_ret
           exact ⟨by first | rfl | (simp; done) | (simp [*]; done), by repeat (first | exact Drawn0.refl _ | apply Drawn0.step)⟩
          ·rw [if_neg c12] at H
           have c12b0 : ((wrap64 ((wrap64 (a0 * 16)) + a1)) == 259) = false := beq_eq_false_iff_ne.mpr c12
           have c12b1 : ((wrap64 ((wrap64 (a0 * 16)) + a1)) != 259) = true := bne_iff_ne.mpr c12
           by_cases c13 : (wrap64 ((wrap64 (a0 * 16)) + a1)) = 260
           ·rw [if_pos c13] at H
            have c13b0 : ((wrap64 ((wrap64 (a0 * 16)) + a1)) == 260) = true := beq_iff_eq.mpr c13
            have c13b1 : ((wrap64 ((wrap64 (a0 * 16)) + a1)) != 260) = false := bne_eq_false_iff_eq.mpr c13
            clear c13
            obtain rfl := Option.some.inj H
            go_enter Try.func224, Try.ntmps224
            go_wp2
            go_ret
            exact ⟨by first | rfl | (simp; done) | (simp [*]; done), by repeat (first | exact Drawn0.refl _ | apply Drawn0.step)⟩
           ·rw [if_neg c13] at H
            have c13b0 : ((wrap64 ((wrap64 (a0 * 16)) + a1)) == 260) = false := beq_eq_false_iff_ne.mpr c13
            have c13b1 : ((wrap64 ((wrap64 (a0 * 16)) + a1)) != 260) = true := bne_iff_ne.mpr c13
            by_cases c14 : (wrap64 ((wrap64 (a0 * 16)) + a1)) = 261
            ·rw [if_pos c14] at H
             have c14b0 : ((wrap64 ((wrap64 (a0 * 16)) + a1)) == 261) = true := beq_iff_eq.mpr c14
             have c14b1 : ((wrap64 ((wrap64 (a0 * 16)) + a1)) != 261) = false := bne_eq_false_iff_eq.mpr c14
             clear c14
             obtain rfl := Option.some.inj H
             go_enter Try.func224, Try.ntmps224
             go_wp2
             go_ret
             exact ⟨by first | rfl | (simp; done) | (simp [*]; done), by repeat (first | exact Drawn0.refl _ | apply Drawn0.step)⟩
            ·rw [if_neg c14] at H
             have c14b0 : ((wrap64 ((wrap64 (a0 * 16)) + a1)) == 261) = false := beq_eq_false_iff_ne.mpr c14
             have c14b1 : ((wrap64 ((wrap64 (a0 * 16)) + a1)) != 261) = true := bne_iff_ne.mpr c14
             by_cases c15 : (wrap64 ((wrap64 (a0 * 16)) + a1)) = 262
             ·rw [if_pos c15] at H
              have c15b0 : ((wrap64 ((wrap64 (a0 * 16)) + a1)) == 262) = true := beq_iff_eq.mpr c15
              have c15b1 : ((wrap64 ((wrap64 (a0 * 16)) + a1)) != 262) = false := bne_eq_false_iff_eq.mpr c15
              clear c15
              obtain rfl := Option.some.inj H
              go_enter Try.func224, Try.ntmps224
              go_wp2
              go_ret
              exact ⟨by first | rfl | (simp; done) | (simp [*]; done), by repeat (first | exact Drawn0.refl _ | apply Drawn0.step)⟩
             ·rw [if_neg c15] at H
              have c15b0 : ((wrap64 ((wrap64 (a0 * 16)) + a1)) == 262) = false := beq_eq_false_iff_ne.mpr c15
              have c15b1 : ((wrap64 ((wrap64 (a0 * 16)) + a1)) != 262) = true := bne_iff_ne.mpr c15
              obtain rfl := Option.some.inj H
              go_enter Try.func224, Try.ntmps224
              go_wp2
              go_ret
              exact ⟨by first | rfl | (simp; done) | (simp [*]; done), by repeat (first | exact Drawn0.refl _ | apply Drawn0.step)⟩

/-! ### spec_l5Back: function 218 -/
def spec_l5Back.f (a0 : Int) (a1 : Int) (a2 : Int) (a3 : Int) : Option (Int × Int) := (spec_l5P.f a0 a1).bind fun t224 => ((spec_l1Ten.f (wrap64 (t224 * a3))).bind fun t225 => ((spec_l5U.f a0 a1).bind fun t226 => ((spec_l1Ten.f (wrap64 (t226 * (wrap64 (a2 + t225))))).bind fun t227 => ((spec_l5P.f a0 a1).bind fun t228 => ((spec_l1Ten.f (wrap64 (t228 * (wrap64 (a3 - t227))))).bind fun t229 => (some (wrap64 ((wrap64 (a2 + t225)) + t229), wrap64 (a3 - t227))))))))
set_option maxHeartbeats 8000000 in
set_option maxRecDepth 100000 in
theorem spec_l5Back.calls (a0 : Int) (a1 : Int) (a2 : Int) (a3 : Int) (r1 : Int) (r2 : Int) (w : World) (h : spec_l5Back.f a0 a1 a2 a3 = some (r1, r2)) :
  Calls Try.prog 218 #[.int .i64 a0, .int .i64 a1, .int .i64 a2, .int .i64 a3] w fun e w' => e = .returned (.tuple #[.int .i64 r1, .int .i64 r2]) ∧ Drawn0 w w' := by
 have H : ((spec_l5P.f a0 a1).bind fun t224 => ((spec_l1Ten.f (wrap64 (t224 * a3))).bind fun t225 => ((spec_l5U.f a0 a1).bind fun t226 => ((spec_l1Ten.f (wrap64 (t226 * (wrap64 (a2 + t225))))).bind fun t227 => ((spec_l5P.f a0 a1).bind fun t228 => ((spec_l1Ten.f (wrap64 (t228 * (wrap64 (a3 - t227))))).bind fun t229 => (some (wrap64 ((wrap64 (a2 + t225)) + t229), wrap64 (a3 - t227))))))))) = some (r1, r2) := h
 clear h
 replace H := Option.bind_eq_some_iff.mp H
 obtain ⟨t224, A50, H⟩ := H
 replace H : ((spec_l1Ten.f (wrap64 (t224 * a3))).bind fun t225 => ((spec_l5U.f a0 a1).bind fun t226 => ((spec_l1Ten.f (wrap64 (t226 * (wrap64 (a2 + t225))))).bind fun t227 => ((spec_l5P.f a0 a1).bind fun t228 => ((spec_l1Ten.f (wrap64 (t228 * (wrap64 (a3 - t227))))).bind fun t229 => (some (wrap64 ((wrap64 (a2 + t225)) + t229), wrap64 (a3 - t227)))))))) = some (r1, r2) := H
 have A5 := Aside0.mk A50
 clear A50
 replace H := Option.bind_eq_some_iff.mp H
 obtain ⟨t225, A60, H⟩ := H
 replace H : ((spec_l5U.f a0 a1).bind fun t226 => ((spec_l1Ten.f (wrap64 (t226 * (wrap64 (a2 + t225))))).bind fun t227 => ((spec_l5P.f a0 a1).bind fun t228 => ((spec_l1Ten.f (wrap64 (t228 * (wrap64 (a3 - t227))))).bind fun t229 => (some (wrap64 ((wrap64 (a2 + t225)) + t229), wrap64 (a3 - t227))))))) = some (r1, r2) := H
 have A6 := Aside0.mk A60
 clear A60
 replace H := Option.bind_eq_some_iff.mp H
 obtain ⟨t226, A70, H⟩ := H
 replace H : ((spec_l1Ten.f (wrap64 (t226 * (wrap64 (a2 + t225))))).bind fun t227 => ((spec_l5P.f a0 a1).bind fun t228 => ((spec_l1Ten.f (wrap64 (t228 * (wrap64 (a3 - t227))))).bind fun t229 => (some (wrap64 ((wrap64 (a2 + t225)) + t229), wrap64 (a3 - t227)))))) = some (r1, r2) := H
 have A7 := Aside0.mk A70
 clear A70
 replace H := Option.bind_eq_some_iff.mp H
 obtain ⟨t227, A80, H⟩ := H
 replace H : ((spec_l5P.f a0 a1).bind fun t228 => ((spec_l1Ten.f (wrap64 (t228 * (wrap64 (a3 - t227))))).bind fun t229 => (some (wrap64 ((wrap64 (a2 + t225)) + t229), wrap64 (a3 - t227))))) = some (r1, r2) := H
 have A8 := Aside0.mk A80
 clear A80
 replace H := Option.bind_eq_some_iff.mp H
 obtain ⟨t228, A90, H⟩ := H
 replace H : ((spec_l1Ten.f (wrap64 (t228 * (wrap64 (a3 - t227))))).bind fun t229 => (some (wrap64 ((wrap64 (a2 + t225)) + t229), wrap64 (a3 - t227)))) = some (r1, r2) := H
 have A9 := Aside0.mk A90
 clear A90
 replace H := Option.bind_eq_some_iff.mp H
 obtain ⟨t229, A100, H⟩ := H
 replace H : (some (wrap64 ((wrap64 (a2 + t225)) + t229), wrap64 (a3 - t227))) = some (r1, r2) := H
 have A10 := Aside0.mk A100
 clear A100
 simp only [Option.some.injEq, Prod.mk.injEq] at H
 obtain ⟨rfl, rfl⟩ := H
 go_enter Try.func218, Try.ntmps218
 go_wp2_with (first | ((with_reducible refine gate_callee (f := 223) rfl ?_); refine goesL_ (some 15) rfl rfl Try.func223 (by kernel_rfl) rfl #[.int .i64 a0, .int .i64 a1] rfl (by (try simp only [List.map_toArray, List.map_cons, List.map_nil]); first | done | rfl | (simp only [List.length_drop, List.length_take]; rfl)) ?_; (with_reducible refine (spec_l5P.calls a0 a1 t224 _ A5.out).mono ?_); rintro e w' ⟨rfl, ⟨nd, rfl⟩⟩; refine ⟨_, rfl, ?_⟩) | ((with_reducible refine gate_callee (f := 222) rfl ?_); refine goesL_ (some 18) rfl rfl Try.func222 (by kernel_rfl) rfl #[.int .i64 (wrap64 (t224 * a3))] rfl (by (try simp only [List.map_toArray, List.map_cons, List.map_nil]); first | done | rfl | (simp only [List.length_drop, List.length_take]; rfl)) ?_; (with_reducible refine (spec_l1Ten.calls (wrap64 (t224 * a3)) t225 _ A6.out).mono ?_); rintro e w' ⟨rfl, ⟨nd, rfl⟩⟩; refine ⟨_, rfl, ?_⟩) | ((with_reducible refine gate_callee (f := 224) rfl ?_); refine goesL_ (some 23) rfl rfl Try.func224 (by kernel_rfl) rfl #[.int .i64 a0, .int .i64 a1] rfl (by (try simp only [List.map_toArray, List.map_cons, List.map_nil]); first | done | rfl | (simp only [List.length_drop, List.length_take]; rfl)) ?_; (with_reducible refine (spec_l5U.calls a0 a1 t226 _ A7.out).mono ?_); rintro e w' ⟨rfl, ⟨nd, rfl⟩⟩; refine ⟨_, rfl, ?_⟩) | ((with_reducible refine gate_callee (f := 222) rfl ?_); refine goesL_ (some 26) rfl rfl Try.func222 (by kernel_rfl) rfl #[.int .i64 (wrap64 (t226 * (wrap64 (a2 + t225))))] rfl (by (try simp only [List.map_toArray, List.map_cons, List.map_nil]); first | done | rfl | (simp only [List.length_drop, List.length_take]; rfl)) ?_; (with_reducible refine (spec_l1Ten.calls (wrap64 (t226 * (wrap64 (a2 + t225)))) t227 _ A8.out).mono ?_); rintro e w' ⟨rfl, ⟨nd, rfl⟩⟩; refine ⟨_, rfl, ?_⟩) | ((with_reducible refine gate_callee (f := 223) rfl ?_); refine goesL_ (some 31) rfl rfl Try.func223 (by kernel_rfl) rfl #[.int .i64 a0, .int .i64 a1] rfl (by (try simp only [List.map_toArray, List.map_cons, List.map_nil]); first | done | rfl | (simp only [List.length_drop, List.length_take]; rfl)) ?_; (with_reducible refine (spec_l5P.calls a0 a1 t228 _ A9.out).mono ?_); rintro e w' ⟨rfl, ⟨nd, rfl⟩⟩; refine ⟨_, rfl, ?_⟩) | ((with_reducible refine gate_callee (f := 222) rfl ?_); refine goesL_ (some 34) rfl rfl Try.func222 (by kernel_rfl) rfl #[.int .i64 (wrap64 (t228 * (wrap64 (a3 - t227))))] rfl (by (try simp only [List.map_toArray, List.map_cons, List.map_nil]); first | done | rfl | (simp only [List.length_drop, List.length_take]; rfl)) ?_; (with_reducible refine (spec_l1Ten.calls (wrap64 (t228 * (wrap64 (a3 - t227)))) t229 _ A10.out).mono ?_); rintro e w' ⟨rfl, ⟨nd, rfl⟩⟩; refine ⟨_, rfl, ?_⟩))
 go_ret2
 exact ⟨by first | rfl | (simp; done) | (simp [*]; done), by repeat (first | exact Drawn0.refl _ | apply Drawn0.step)⟩

/-! ### spec_l5Turn: function 219 -/
def spec_l5Turn.f (a0 : Int) (a1 : Int) (a2 : Int) (a3 : Int) : Option (Int × Int) := (spec_l5P.f a0 a1).bind fun t230 => ((spec_l1Ten.f (wrap64 (t230 * a3))).bind fun t231 => ((spec_l5U.f a0 a1).bind fun t232 => ((spec_l1Ten.f (wrap64 (t232 * (wrap64 (a2 - t231))))).bind fun t233 => ((spec_l5P.f a0 a1).bind fun t234 => ((spec_l1Ten.f (wrap64 (t234 * (wrap64 (a3 + t233))))).bind fun t235 => (some (wrap64 ((wrap64 (a2 - t231)) - t235), wrap64 (a3 + t233))))))))
set_option maxHeartbeats 8000000 in
set_option maxRecDepth 100000 in
theorem spec_l5Turn.calls (a0 : Int) (a1 : Int) (a2 : Int) (a3 : Int) (r1 : Int) (r2 : Int) (w : World) (h : spec_l5Turn.f a0 a1 a2 a3 = some (r1, r2)) :
  Calls Try.prog 219 #[.int .i64 a0, .int .i64 a1, .int .i64 a2, .int .i64 a3] w fun e w' => e = .returned (.tuple #[.int .i64 r1, .int .i64 r2]) ∧ Drawn0 w w' := by
 have H : ((spec_l5P.f a0 a1).bind fun t230 => ((spec_l1Ten.f (wrap64 (t230 * a3))).bind fun t231 => ((spec_l5U.f a0 a1).bind fun t232 => ((spec_l1Ten.f (wrap64 (t232 * (wrap64 (a2 - t231))))).bind fun t233 => ((spec_l5P.f a0 a1).bind fun t234 => ((spec_l1Ten.f (wrap64 (t234 * (wrap64 (a3 + t233))))).bind fun t235 => (some (wrap64 ((wrap64 (a2 - t231)) - t235), wrap64 (a3 + t233))))))))) = some (r1, r2) := h
 clear h
 replace H := Option.bind_eq_some_iff.mp H
 obtain ⟨t230, A50, H⟩ := H
 replace H : ((spec_l1Ten.f (wrap64 (t230 * a3))).bind fun t231 => ((spec_l5U.f a0 a1).bind fun t232 => ((spec_l1Ten.f (wrap64 (t232 * (wrap64 (a2 - t231))))).bind fun t233 => ((spec_l5P.f a0 a1).bind fun t234 => ((spec_l1Ten.f (wrap64 (t234 * (wrap64 (a3 + t233))))).bind fun t235 => (some (wrap64 ((wrap64 (a2 - t231)) - t235), wrap64 (a3 + t233)))))))) = some (r1, r2) := H
 have A5 := Aside0.mk A50
 clear A50
 replace H := Option.bind_eq_some_iff.mp H
 obtain ⟨t231, A60, H⟩ := H
 replace H : ((spec_l5U.f a0 a1).bind fun t232 => ((spec_l1Ten.f (wrap64 (t232 * (wrap64 (a2 - t231))))).bind fun t233 => ((spec_l5P.f a0 a1).bind fun t234 => ((spec_l1Ten.f (wrap64 (t234 * (wrap64 (a3 + t233))))).bind fun t235 => (some (wrap64 ((wrap64 (a2 - t231)) - t235), wrap64 (a3 + t233))))))) = some (r1, r2) := H
 have A6 := Aside0.mk A60
 clear A60
 replace H := Option.bind_eq_some_iff.mp H
 obtain ⟨t232, A70, H⟩ := H
 replace H : ((spec_l1Ten.f (wrap64 (t232 * (wrap64 (a2 - t231))))).bind fun t233 => ((spec_l5P.f a0 a1).bind fun t234 => ((spec_l1Ten.f (wrap64 (t234 * (wrap64 (a3 + t233))))).bind fun t235 => (some (wrap64 ((wrap64 (a2 - t231)) - t235), wrap64 (a3 + t233)))))) = some (r1, r2) := H
 have A7 := Aside0.mk A70
 clear A70
 replace H := Option.bind_eq_some_iff.mp H
 obtain ⟨t233, A80, H⟩ := H
 replace H : ((spec_l5P.f a0 a1).bind fun t234 => ((spec_l1Ten.f (wrap64 (t234 * (wrap64 (a3 + t233))))).bind fun t235 => (some (wrap64 ((wrap64 (a2 - t231)) - t235), wrap64 (a3 + t233))))) = some (r1, r2) := H
 have A8 := Aside0.mk A80
 clear A80
 replace H := Option.bind_eq_some_iff.mp H
 obtain ⟨t234, A90, H⟩ := H
 replace H : ((spec_l1Ten.f (wrap64 (t234 * (wrap64 (a3 + t233))))).bind fun t235 => (some (wrap64 ((wrap64 (a2 - t231)) - t235), wrap64 (a3 + t233)))) = some (r1, r2) := H
 have A9 := Aside0.mk A90
 clear A90
 replace H := Option.bind_eq_some_iff.mp H
 obtain ⟨t235, A100, H⟩ := H
 replace H : (some (wrap64 ((wrap64 (a2 - t231)) - t235), wrap64 (a3 + t233))) = some (r1, r2) := H
 have A10 := Aside0.mk A100
 clear A100
 simp only [Option.some.injEq, Prod.mk.injEq] at H
 obtain ⟨rfl, rfl⟩ := H
 go_enter Try.func219, Try.ntmps219
 go_wp2_with (first | ((with_reducible refine gate_callee (f := 223) rfl ?_); refine goesL_ (some 15) rfl rfl Try.func223 (by kernel_rfl) rfl #[.int .i64 a0, .int .i64 a1] rfl (by (try simp only [List.map_toArray, List.map_cons, List.map_nil]); first | done | rfl | (simp only [List.length_drop, List.length_take]; rfl)) ?_; (with_reducible refine (spec_l5P.calls a0 a1 t230 _ A5.out).mono ?_); rintro e w' ⟨rfl, ⟨nd, rfl⟩⟩; refine ⟨_, rfl, ?_⟩) | ((with_reducible refine gate_callee (f := 222) rfl ?_); refine goesL_ (some 18) rfl rfl Try.func222 (by kernel_rfl) rfl #[.int .i64 (wrap64 (t230 * a3))] rfl (by (try simp only [List.map_toArray, List.map_cons, List.map_nil]); first | done | rfl | (simp only [List.length_drop, List.length_take]; rfl)) ?_; (with_reducible refine (spec_l1Ten.calls (wrap64 (t230 * a3)) t231 _ A6.out).mono ?_); rintro e w' ⟨rfl, ⟨nd, rfl⟩⟩; refine ⟨_, rfl, ?_⟩) | ((with_reducible refine gate_callee (f := 224) rfl ?_); refine goesL_ (some 23) rfl rfl Try.func224 (by kernel_rfl) rfl #[.int .i64 a0, .int .i64 a1] rfl (by (try simp only [List.map_toArray, List.map_cons, List.map_nil]); first | done | rfl | (simp only [List.length_drop, List.length_take]; rfl)) ?_; (with_reducible refine (spec_l5U.calls a0 a1 t232 _ A7.out).mono ?_); rintro e w' ⟨rfl, ⟨nd, rfl⟩⟩; refine ⟨_, rfl, ?_⟩) | ((with_reducible refine gate_callee (f := 222) rfl ?_); refine goesL_ (some 26) rfl rfl Try.func222 (by kernel_rfl) rfl #[.int .i64 (wrap64 (t232 * (wrap64 (a2 - t231))))] rfl (by (try simp only [List.map_toArray, List.map_cons, List.map_nil]); first | done | rfl | (simp only [List.length_drop, List.length_take]; rfl)) ?_; (with_reducible refine (spec_l1Ten.calls (wrap64 (t232 * (wrap64 (a2 - t231)))) t233 _ A8.out).mono ?_); rintro e w' ⟨rfl, ⟨nd, rfl⟩⟩; refine ⟨_, rfl, ?_⟩) | ((with_reducible refine gate_callee (f := 223) rfl ?_); refine goesL_ (some 31) rfl rfl Try.func223 (by kernel_rfl) rfl #[.int .i64 a0, .int .i64 a1] rfl (by (try simp only [List.map_toArray, List.map_cons, List.map_nil]); first | done | rfl | (simp only [List.length_drop, List.length_take]; rfl)) ?_; (with_reducible refine (spec_l5P.calls a0 a1 t234 _ A9.out).mono ?_); rintro e w' ⟨rfl, ⟨nd, rfl⟩⟩; refine ⟨_, rfl, ?_⟩) | ((with_reducible refine gate_callee (f := 222) rfl ?_); refine goesL_ (some 34) rfl rfl Try.func222 (by kernel_rfl) rfl #[.int .i64 (wrap64 (t234 * (wrap64 (a3 + t233))))] rfl (by (try simp only [List.map_toArray, List.map_cons, List.map_nil]); first | done | rfl | (simp only [List.length_drop, List.length_take]; rfl)) ?_; (with_reducible refine (spec_l1Ten.calls (wrap64 (t234 * (wrap64 (a3 + t233)))) t235 _ A10.out).mono ?_); rintro e w' ⟨rfl, ⟨nd, rfl⟩⟩; refine ⟨_, rfl, ?_⟩))
 go_ret2
 exact ⟨by first | rfl | (simp; done) | (simp [*]; done), by repeat (first | exact Drawn0.refl _ | apply Drawn0.step)⟩

/-! ### spec_l7Seam: function 213 -/
def spec_l7Seam.l0 : Nat → Int → List Int → List Int → Bool → Int → List Int → List Int → Int → Option (List Int × List Int)
 | 0, _, _, _, _, _, _, _, _ => none
 | k + 1, x0, x1, x2, x3, x10, x11, x12, x13 => if x13 < x10 then (if x3 = true then (if 0 ≤ (wrap64 ((wrap64 (x10 - 1)) - x13)) then (if (wrap64 ((wrap64 (x10 - 1)) - x13)) < (x1.length : Int) then (if 0 ≤ x13 then (if x13 < (x2.length : Int) then ((spec_l5Back.f x0 x13 (rd x1 (wrap64 ((wrap64 (x10 - 1)) - x13))) (rd x2 x13)).bind fun bt244 => (if (wrap64 ((wrap64 (x10 - 1)) - x13)) < (x11.length : Int) then (if x13 < (x12.length : Int) then (spec_l7Seam.l0 k x0 x1 x2 x3 x10 (x11.set ((wrap64 ((wrap64 (x10 - 1)) - x13)) : Int).toNat bt244.1) (x12.set (x13 : Int).toNat bt244.2) (wrap64 (x13 + 1))) else (none)) else (none))) else (none)) else (none)) else (none)) else (none)) else (if 0 ≤ (wrap64 ((wrap64 (x10 - 1)) - x13)) then (if (wrap64 ((wrap64 (x10 - 1)) - x13)) < (x1.length : Int) then (if 0 ≤ x13 then (if x13 < (x2.length : Int) then ((spec_l5Turn.f x0 x13 (rd x1 (wrap64 ((wrap64 (x10 - 1)) - x13))) (rd x2 x13)).bind fun bt250 => (if (wrap64 ((wrap64 (x10 - 1)) - x13)) < (x11.length : Int) then (if x13 < (x12.length : Int) then (spec_l7Seam.l0 k x0 x1 x2 x3 x10 (x11.set ((wrap64 ((wrap64 (x10 - 1)) - x13)) : Int).toNat bt250.1) (x12.set (x13 : Int).toNat bt250.2) (wrap64 (x13 + 1))) else (none)) else (none))) else (none)) else (none)) else (none)) else (none))) else (some (x11, x12))
def spec_l7Seam.f (k : Nat) (a0 : Int) (l1 : List Int) (l2 : List Int) (a3 : Bool) : Option (List Int × List Int) := (spec_l1Zeros.f (wrap64 (Int.tdiv a0 2))).bind fun t236 => ((spec_l1Zeros.f (wrap64 (Int.tdiv a0 2))).bind fun t239 => (spec_l7Seam.l0 k a0 l1 l2 a3 (wrap64 (Int.tdiv a0 2)) t236 t239 0))
theorem spec_l7Seam.mono_l : ∀ k, (∀ y0 y1 y2 y3 y4 y5 y6 y7, LeO (spec_l7Seam.l0 k y0 y1 y2 y3 y4 y5 y6 y7) (spec_l7Seam.l0 (k + 1) y0 y1 y2 y3 y4 y5 y6 y7))
 | 0 => fun _ _ _ _ _ _ _ _ r h => by simp [spec_l7Seam.l0] at h
 | k + 1 => by
  have ih0 := spec_l7Seam.mono_l k
  ·intro y0 y1 y2 y3 y4 y5 y6 y7
   unfold spec_l7Seam.l0
   repeat' first
   | (with_reducible exact ih0 _ _ _ _ _ _ _ _)
   | (with_reducible exact LeO.refl _)
   | (with_reducible exact LeO.none _)
   | (with_reducible refine LeO.ite ?_ ?_)
   | (with_reducible refine LeO.bind ?_ (fun _ => ?_))
   | exact ih0 _ _ _ _ _ _ _ _
   | exact LeO.none _
   | refine LeO.ite ?_ ?_
   | refine LeO.bind ?_ (fun _ => ?_)
theorem spec_l7Seam.mono : ∀ a0 a1 a2 a3 k, LeO (spec_l7Seam.f k a0 a1 a2 a3) (spec_l7Seam.f (k + 1) a0 a1 a2 a3) := by
 intro a0 a1 a2 a3 k
 have ih0 := spec_l7Seam.mono_l k
 unfold spec_l7Seam.f
 repeat' first
   | (with_reducible exact ih0 _ _ _ _ _ _ _ _)
   | (with_reducible exact LeO.refl _)
   | (with_reducible exact LeO.none _)
   | (with_reducible refine LeO.ite ?_ ?_)
   | (with_reducible refine LeO.bind ?_ (fun _ => ?_))
   | exact ih0 _ _ _ _ _ _ _ _
   | exact LeO.none _
   | refine LeO.ite ?_ ?_
   | refine LeO.bind ?_ (fun _ => ?_)
set_option maxHeartbeats 8000000 in
set_option maxRecDepth 100000 in
theorem spec_l7Seam.calls (k : Nat) (a0 : Int) (A1 : Option Addr) (c1 : Nat) (l1 : List Int) (A2 : Option Addr) (c2 : Nat) (l2 : List Int) (a3 : Bool) (r1 : List Int) (r2 : List Int) (w : World) (hr1 : Kd.C (Kd.int .i64) w A1 l1.length l1) (hc1 : l1.length ≤ c1) (hr2 : Kd.C (Kd.int .i64) w A2 l2.length l2) (hc2 : l2.length ≤ c2) (h : spec_l7Seam.f k a0 l1 l2 a3 = some (r1, r2)) :
  Calls Try.prog 213 #[.int .i64 a0, .slice A1 l1.length c1, .slice A2 l2.length c2, .bool a3] w fun e w' => ∃ v0_ v1_ : Value, e = .returned (.tuple #[v0_, v1_]) ∧ Kd.R (Kd.int .i64) 2 w' w.heap.size (fun k_ => some k_ ≠ (v1_ : Value).ownBlock) v0_ r1 ∧ Kd.R (Kd.int .i64) 2 w' w.heap.size (fun k_ => some k_ ≠ (v0_ : Value).ownBlock) v1_ r2 ∧ Below w.heap.size w w' := by
 have HR1 := Aside0.mk hr1
 have HC1 := Aside0.mk hc1
 clear hr1 hc1
 have HR2 := Aside0.mk hr2
 have HC2 := Aside0.mk hc2
 clear hr2 hc2
 have HB := Aside0.mk (Below.refl w.heap.size w)
 have H : ((spec_l1Zeros.f (wrap64 (Int.tdiv a0 2))).bind fun t236 => ((spec_l1Zeros.f (wrap64 (Int.tdiv a0 2))).bind fun t239 => (spec_l7Seam.l0 k a0 l1 l2 a3 (wrap64 (Int.tdiv a0 2)) t236 t239 0))) = some (r1, r2) := h
 clear h
 replace H := Option.bind_eq_some_iff.mp H
 obtain ⟨t236, A50, H⟩ := H
 replace H : ((spec_l1Zeros.f (wrap64 (Int.tdiv a0 2))).bind fun t239 => (spec_l7Seam.l0 k a0 l1 l2 a3 (wrap64 (Int.tdiv a0 2)) t236 t239 0)) = some (r1, r2) := H
 have A5 := Aside0.mk A50
 clear A50
 replace H := Option.bind_eq_some_iff.mp H
 obtain ⟨t239, A60, H⟩ := H
 replace H : (spec_l7Seam.l0 k a0 l1 l2 a3 (wrap64 (Int.tdiv a0 2)) t236 t239 0) = some (r1, r2) := H
 have A6 := Aside0.mk A60
 clear A60
 have H' := Aside0.mk H
 clear H
 go_enter Try.func213, Try.ntmps213
 go_wp2_with (first | (go_at_call 182; (with_reducible refine (spec_l1Zeros.calls (wrap64 (Int.tdiv a0 2)) t236 _ A5.out).mono ?_); rintro e w7 ⟨v237, rfl, ho0, hb⟩; have n0_ := Aside0.mk (Kd.R_lower ho0 (below_size (by repeat (first | (with_reducible first | exact HB.out | apply below_alloc | apply pw_below_drewN | apply below_drew1) | exact HB.out)))); have n1_ := Aside0.mk (below_step (by repeat (first | (with_reducible first | exact HB.out | apply below_alloc | apply pw_below_drewN | apply below_drew1) | exact HB.out)) hb); clear HB; have HO238 := n0_; have HB := n1_; clear n0_ n1_; (try clear hb); (try clear hb2); (try clear hk); (try clear hi); (try clear ho0); (try clear A5)) | (go_at_call 182; (with_reducible refine (spec_l1Zeros.calls (wrap64 (Int.tdiv a0 2)) t239 _ A6.out).mono ?_); rintro e w8 ⟨v240, rfl, ho0, hb⟩; have n0_ := Aside0.mk (Kd.R_elder' (by (with_reducible repeat (first | apply Kd.R_alloc | apply Kd.R_drewN | apply Kd.R_drew)); exact HO238.out) (Kd.R_base ho0) hb); have n1_ := Aside0.mk (Kd.R_lower (Kd.R_new' ho0 (Kd.R_lt (by (with_reducible repeat (first | apply Kd.R_alloc | apply Kd.R_drewN | apply Kd.R_drew)); exact HO238.out))) (below_size (by repeat (first | (with_reducible first | exact HB.out | apply below_alloc | apply pw_below_drewN | apply below_drew1) | exact HB.out)))); have n2_ := Aside0.mk (below_step (by repeat (first | (with_reducible first | exact HB.out | apply below_alloc | apply pw_below_drewN | apply below_drew1) | exact HB.out)) hb); clear HO238; clear HB; have HO238 := n0_; have HO241 := n1_; have HB := n2_; clear n0_ n1_ n2_; (try clear hb); (try clear hb2); (try clear hk); (try clear hi); (try clear ho0); (try clear A6)))
 repeat (go_quiet (first | (go_at_call 182; (try simp only [i64_w, i32_w]); (with_reducible refine (spec_l1Zeros.calls (wrap64 (Int.tdiv a0 2)) t236 _ A5.out).mono ?_); rintro e w7 ⟨v237, rfl, ho0, hb⟩; have n0_ := Aside0.mk (Kd.R_lower ho0 (below_size (by repeat (first | (with_reducible first | exact HB.out | apply below_alloc | apply pw_below_drewN | apply below_drew1) | exact HB.out)))); have n1_ := Aside0.mk (below_step (by repeat (first | (with_reducible first | exact HB.out | apply below_alloc | apply pw_below_drewN | apply below_drew1) | exact HB.out)) hb); clear HB; have HO238 := n0_; have HB := n1_; clear n0_ n1_; (try clear hb); (try clear hb2); (try clear hk); (try clear hi); (try clear ho0); (try clear A5)) | (go_at_call 182; (try simp only [i64_w, i32_w]); (with_reducible refine (spec_l1Zeros.calls (wrap64 (Int.tdiv a0 2)) t239 _ A6.out).mono ?_); rintro e w8 ⟨v240, rfl, ho0, hb⟩; have n0_ := Aside0.mk (Kd.R_elder' (by (with_reducible repeat (first | apply Kd.R_alloc | apply Kd.R_drewN | apply Kd.R_drew)); exact HO238.out) (Kd.R_base ho0) hb); have n1_ := Aside0.mk (Kd.R_lower (Kd.R_new' ho0 (Kd.R_lt (by (with_reducible repeat (first | apply Kd.R_alloc | apply Kd.R_drewN | apply Kd.R_drew)); exact HO238.out))) (below_size (by repeat (first | (with_reducible first | exact HB.out | apply below_alloc | apply pw_below_drewN | apply below_drew1) | exact HB.out)))); have n2_ := Aside0.mk (below_step (by repeat (first | (with_reducible first | exact HB.out | apply below_alloc | apply pw_below_drewN | apply below_drew1) | exact HB.out)) hb); clear HO238; clear HB; have HO238 := n0_; have HO241 := n1_; have HB := n2_; clear n0_ n1_ n2_; (try clear hb); (try clear hb2); (try clear hk); (try clear hi); (try clear ho0); (try clear A6))); try go_wp2_with (first | (go_at_call 182; (try simp only [i64_w, i32_w]); (with_reducible refine (spec_l1Zeros.calls (wrap64 (Int.tdiv a0 2)) t236 _ A5.out).mono ?_); rintro e w7 ⟨v237, rfl, ho0, hb⟩; have n0_ := Aside0.mk (Kd.R_lower ho0 (below_size (by repeat (first | (with_reducible first | exact HB.out | apply below_alloc | apply pw_below_drewN | apply below_drew1) | exact HB.out)))); have n1_ := Aside0.mk (below_step (by repeat (first | (with_reducible first | exact HB.out | apply below_alloc | apply pw_below_drewN | apply below_drew1) | exact HB.out)) hb); clear HB; have HO238 := n0_; have HB := n1_; clear n0_ n1_; (try clear hb); (try clear hb2); (try clear hk); (try clear hi); (try clear ho0); (try clear A5)) | (go_at_call 182; (try simp only [i64_w, i32_w]); (with_reducible refine (spec_l1Zeros.calls (wrap64 (Int.tdiv a0 2)) t239 _ A6.out).mono ?_); rintro e w8 ⟨v240, rfl, ho0, hb⟩; have n0_ := Aside0.mk (Kd.R_elder' (by (with_reducible repeat (first | apply Kd.R_alloc | apply Kd.R_drewN | apply Kd.R_drew)); exact HO238.out) (Kd.R_base ho0) hb); have n1_ := Aside0.mk (Kd.R_lower (Kd.R_new' ho0 (Kd.R_lt (by (with_reducible repeat (first | apply Kd.R_alloc | apply Kd.R_drewN | apply Kd.R_drew)); exact HO238.out))) (below_size (by repeat (first | (with_reducible first | exact HB.out | apply below_alloc | apply pw_below_drewN | apply below_drew1) | exact HB.out)))); have n2_ := Aside0.mk (below_step (by repeat (first | (with_reducible first | exact HB.out | apply below_alloc | apply pw_below_drewN | apply below_drew1) | exact HB.out)) hb); clear HO238; clear HB; have HO238 := n0_; have HO241 := n1_; have HB := n2_; clear n0_ n1_ n2_; (try clear hb); (try clear hb2); (try clear hk); (try clear hi); (try clear ho0); (try clear A6))))
 go_loopg [13] k (fun kq v13 w' => ∃ (x11_1 : List Int) (x12_1 : List Int) (x13_1 : Int), v13 = .int .i64 x13_1 ∧ Aside0 (spec_l7Seam.l0 kq a0 l1 l2 a3 (wrap64 (Int.tdiv a0 2)) x11_1 x12_1 x13_1 = some (r1, r2)) ∧ Aside0 (kq ≤ k) ∧ Aside0 (Kd.R (Kd.int .i64) 2 w' w.heap.size (fun k_ => some k_ ≠ (v240 : Value).ownBlock) v237 x11_1) ∧ Aside0 (Kd.R (Kd.int .i64) 2 w' w.heap.size (fun k_ => some k_ ≠ (v237 : Value).ownBlock) v240 x12_1) ∧ Aside0 (Below w.heap.size w w'))
 case atStart => exact ⟨(t236), (t239), (0), (by first | rfl | (simp; done) | (simp [*]; done)), H', ⟨Nat.le_refl _⟩, ⟨by (with_reducible repeat (first | apply Kd.R_alloc | apply Kd.R_drewN | apply Kd.R_drew)); exact Kd.R_mono HO238.out (fun _ hk => hk.2)⟩, ⟨by (with_reducible repeat (first | apply Kd.R_alloc | apply Kd.R_drewN | apply Kd.R_drew)); exact Kd.R_mono HO241.out (fun _ hk => hk.2)⟩, ⟨by repeat (first | (with_reducible first | exact HB.out | apply below_alloc | apply pw_below_drewN | apply below_drew1) | exact HB.out)⟩⟩
 case round =>
  clear H'
  try clear c1
  try clear c2
  try clear p2
  try clear p6
  obtain ⟨x11_1, x12_1, x13_1, rfl, HA, HK1, HO_11, HO_12, HB⟩ := hrel
  cases gk with
  | zero => exact absurd HA.out (by simp [spec_l7Seam.l0])
  | succ k1 =>
   have H := HA.out
   clear HA
   simp only [spec_l7Seam.l0] at H
   by_cases c9 : x13_1 < (wrap64 (Int.tdiv a0 2))
   ·rw [if_pos c9] at H
    have c9b0 : decide (x13_1 < (wrap64 (Int.tdiv a0 2))) = true := decide_eq_true c9
    clear c9
    by_cases c10 : a3 = true
    ·subst c10
     replace H : (if 0 ≤ (wrap64 ((wrap64 ((wrap64 (Int.tdiv a0 2)) - 1)) - x13_1)) then (if (wrap64 ((wrap64 ((wrap64 (Int.tdiv a0 2)) - 1)) - x13_1)) < (l1.length : Int) then (if 0 ≤ x13_1 then (if x13_1 < (l2.length : Int) then ((spec_l5Back.f a0 x13_1 (rd l1 (wrap64 ((wrap64 ((wrap64 (Int.tdiv a0 2)) - 1)) - x13_1))) (rd l2 x13_1)).bind fun bt244 => (if (wrap64 ((wrap64 ((wrap64 (Int.tdiv a0 2)) - 1)) - x13_1)) < (x11_1.length : Int) then (if x13_1 < (x12_1.length : Int) then (spec_l7Seam.l0 k1 a0 l1 l2 true (wrap64 (Int.tdiv a0 2)) (x11_1.set ((wrap64 ((wrap64 ((wrap64 (Int.tdiv a0 2)) - 1)) - x13_1)) : Int).toNat bt244.1) (x12_1.set (x13_1 : Int).toNat bt244.2) (wrap64 (x13_1 + 1))) else (none)) else (none))) else (none)) else (none)) else (none)) else (none)) = some (r1, r2) := by rw [if_pos rfl] at H; exact H
     obtain ⟨ji11, hji11⟩ : ∃ j_ : Int, (wrap64 ((wrap64 ((wrap64 (Int.tdiv a0 2)) - 1)) - x13_1)) = j_ := ⟨_, rfl⟩
     have hjq1_ji11 : (IntKind.i64.wrap ((wrap64 ((wrap64 (Int.tdiv a0 2)) - 1)) - x13_1)) = ji11 := by (try simp only [i64_w]); exact hji11
     have hjq2_ji11 : (IntKind.i64.wrap ((IntKind.i64.wrap ((wrap64 (Int.tdiv a0 2)) - 1)) - x13_1)) = ji11 := by (try simp only [i64_w]); exact hji11
     have hjq3_ji11 : (IntKind.i64.wrap ((IntKind.i64.wrap ((IntKind.i64.wrap (Int.tdiv a0 2)) - 1)) - x13_1)) = ji11 := by (try simp only [i64_w]); exact hji11
     replace H : (if 0 ≤ (ji11) then (if (ji11) < (l1.length : Int) then (if 0 ≤ x13_1 then (if x13_1 < (l2.length : Int) then ((spec_l5Back.f a0 x13_1 (rd l1 (ji11)) (rd l2 x13_1)).bind fun bt244 => (if (ji11) < (x11_1.length : Int) then (if x13_1 < (x12_1.length : Int) then (spec_l7Seam.l0 k1 a0 l1 l2 true (wrap64 (Int.tdiv a0 2)) (x11_1.set ((ji11) : Int).toNat bt244.1) (x12_1.set (x13_1 : Int).toNat bt244.2) (wrap64 (x13_1 + 1))) else (none)) else (none))) else (none)) else (none)) else (none)) else (none)) = some (r1, r2) := by first | (rw [hji11] at H; exact H) | (simp only [hji11] at H ⊢; exact H)
     have hji11w : (IntKind.i64.wrap ((wrap64 ((wrap64 (Int.tdiv a0 2)) - 1)) - x13_1)) = ji11 := (i64_w _).trans hji11
     by_cases c12 : 0 ≤ (ji11)
     ·rw [if_pos c12] at H
      have c12b0 : decide (0 ≤ (ji11)) = true := decide_eq_true c12
      clear c12
      by_cases c13 : (ji11) < (l1.length : Int)
      ·rw [if_pos c13] at H
       have c13b0 : decide ((ji11) < (l1.length : Int)) = true := decide_eq_true c13
       clear c13
       by_cases c14 : 0 ≤ x13_1
       ·rw [if_pos c14] at H
        have c14b0 : decide (0 ≤ x13_1) = true := decide_eq_true c14
        clear c14
        by_cases c15 : x13_1 < (l2.length : Int)
        ·rw [if_pos c15] at H
         have c15b0 : decide (x13_1 < (l2.length : Int)) = true := decide_eq_true c15
         clear c15
         replace H := Option.bind_eq_some_iff.mp H
         obtain ⟨⟨t244, t245⟩, A160, H⟩ := H
         replace H : (if (ji11) < (x11_1.length : Int) then (if x13_1 < (x12_1.length : Int) then (spec_l7Seam.l0 k1 a0 l1 l2 true (wrap64 (Int.tdiv a0 2)) (x11_1.set ((ji11) : Int).toNat t244) (x12_1.set (x13_1 : Int).toNat t245) (wrap64 (x13_1 + 1))) else (none)) else (none)) = some (r1, r2) := H
         have A16 := Aside0.mk A160
         clear A160
         by_cases c17 : (ji11) < (x11_1.length : Int)
         ·rw [if_pos c17] at H
          have c17b0 : decide ((ji11) < (x11_1.length : Int)) = true := decide_eq_true c17
          clear c17
          obtain ⟨y246, hy246⟩ : ∃ y_ : List Int, y_ = (x11_1.set ((ji11) : Int).toNat t244) := ⟨_, rfl⟩
          replace H : (if x13_1 < (x12_1.length : Int) then (spec_l7Seam.l0 k1 a0 l1 l2 true (wrap64 (Int.tdiv a0 2)) y246 (x12_1.set (x13_1 : Int).toNat t245) (wrap64 (x13_1 + 1))) else (none)) = some (r1, r2) := by first | (rw [hy246]; with_reducible exact H) | (have H2_ := (Option.bind_some _ _).symm.trans H; rw [hy246]; with_reducible exact H2_) | (have H2_ := (Option.bind_some _ _).symm.trans H; with_reducible exact H2_) | with_reducible exact H | (rw [hy246]; exact H) | exact H
          have Ny246 := Aside0.mk hy246
          clear hy246
          by_cases c19 : x13_1 < (x12_1.length : Int)
          ·rw [if_pos c19] at H
           have c19b0 : decide (x13_1 < (x12_1.length : Int)) = true := decide_eq_true c19
           clear c19
           obtain ⟨y247, hy247⟩ : ∃ y_ : List Int, y_ = (x12_1.set (x13_1 : Int).toNat t245) := ⟨_, rfl⟩
           replace H : (spec_l7Seam.l0 k1 a0 l1 l2 true (wrap64 (Int.tdiv a0 2)) y246 y247 (wrap64 (x13_1 + 1))) = some (r1, r2) := by first | (rw [hy247]; with_reducible exact H) | (have H2_ := (Option.bind_some _ _).symm.trans H; rw [hy247]; with_reducible exact H2_) | (have H2_ := (Option.bind_some _ _).symm.trans H; with_reducible exact H2_) | with_reducible exact H | (rw [hy247]; exact H) | exact H
           have Ny247 := Aside0.mk hy247
           clear hy247
           have H' := Aside0.mk H
           clear H
           have p242 : 0 ≤ ((ji11) : Int) := of_decide_eq_true (by first | (with_reducible assumption) | assumption)
           have q242 : (ji11) < (l1.length : Int) := of_decide_eq_true (by first | (with_reducible assumption) | assumption)
           obtain ⟨ad242, e242, hx242_0⟩ := Kd.at_int HR1.out (ji11) p242 q242
           cases e242
           replace hx242_0 := (HB.out.cell (World.block_lt_of_cell? w _ hx242_0)).trans hx242_0
           replace p242 := eq_true p242
           replace q242 := eq_true q242
           have p243 : 0 ≤ (x13_1 : Int) := of_decide_eq_true (by first | (with_reducible assumption) | assumption)
           have q243 : x13_1 < (l2.length : Int) := of_decide_eq_true (by first | (with_reducible assumption) | assumption)
           obtain ⟨ad243, e243, hx243_0⟩ := Kd.at_int HR2.out x13_1 p243 q243
           cases e243
           replace hx243_0 := (HB.out.cell (World.block_lt_of_cell? w _ hx243_0)).trans hx243_0
           replace p243 := eq_true p243
           replace q243 := eq_true q243
           go_wp2_with (first | (go_at_call 218; (with_reducible refine (spec_l5Back.calls a0 x13_1 (rd l1 (ji11)) (rd l2 x13_1) t244 t245 _ A16.out).mono ?_); rintro e w' ⟨rfl, ⟨nd, rfl⟩⟩; (try first | exact ⟨rfl, _, World.drewN_drewN _ _ _⟩ | exact ⟨rfl, _, Eq.trans (World.drewN_drewN _ _ _) (congrArg (World.drewN _) (Nat.add_assoc _ _ _))⟩); have p18 : 0 ≤ ((ji11) : Int) := of_decide_eq_true (by first | (with_reducible assumption) | assumption); have q18 : ((ji11) : Int) < ((x11_1.length : Int) : Int) := of_decide_eq_true (by first | (with_reducible assumption) | assumption); obtain ⟨go18, co18, eo18, gb18, gl18, cl18, HG18⟩ := Kd.R_form HO_11.out (by omega); (first | cases eo18 | (injection eo18 with ea_ en_ ec_; (first | subst ea_ | (injection ea_ with ea_; subst ea_)); subst ec_; clear en_)); have GB18 := Aside0.mk gb18; have GG18 := Aside0.mk HG18; clear gb18 gl18 HG18; obtain ⟨hx18_0, hf18_0⟩ := Kd.R_celln 0 HO_11.out ((ji11) : Int) p18 q18; replace p18 := eq_true p18; replace q18 := eq_true q18; obtain ⟨hy21_, hz21_⟩ := Kd.R_celln 0 HO_11.out ((ji11) : Int) (of_decide_eq_true (by first | (with_reducible assumption) | assumption)) (of_decide_eq_true (by first | (with_reducible assumption) | assumption)); have HP21 := Kd.R_putg HO_11.out ((ji11) : Int) t244) | ((with_reducible refine gate_store (t := 2) (p := 68) rfl ?_); (try (rw [drewN_self wr]; generalize hq_ : World.drewN wr _ = wr; have n0_ := Aside0.mk (Kd.R_at hq_ HO_11.out); have n1_ := Aside0.mk (Kd.R_at hq_ HO_12.out); have n2_ := Aside0.mk (below_at hq_ HB.out); clear hq_ HO_11 HO_12 HB; have HO_11 := n0_; have HO_12 := n1_; have HB := n2_; clear n0_ n1_ n2_; (try (obtain ⟨hy21_, hz21_⟩ := Kd.R_celln 0 HO_11.out ((ji11) : Int) (of_decide_eq_true (by first | (with_reducible assumption) | assumption)) (of_decide_eq_true (by first | (with_reducible assumption) | assumption)))); (try (have HP21 := Kd.R_putg HO_11.out ((ji11) : Int) t244)))); refine store_event (t := 2) (p := 68) (v := ?vo_w22) (w1 := (wr.setCell ⟨go18, ((ji11) : Int).toNat, none⟩ (.int .i64 t244))) ?hg ?ho ?hn ?hr ?_; (case ho => rfl); (case hg => rfl); (case hn => rfl); (case hr => first | (go_simp; done) | (go_simp; rfl)); intro w22 hw; have hg : wr.grownBy w22 (some go18) := (by rw [hw]; exact HP21.2); have hp_ : Kd.R (Kd.int .i64) 2 w22 w.heap.size (fun k_ => some k_ ≠ (v240 : Value).ownBlock) (.slice (some ⟨go18, 0, none⟩) x11_1.length co18) y246 := (by rw [hw, Ny246.out]; exact HP21.1); clear HP21; have n0_ := Aside0.mk (hp_); have n1_ := Aside0.mk (Kd.R_after (v := (.slice (some ⟨go18, 0, none⟩) x11_1.length co18)) (v1 := (.slice (some ⟨go18, 0, none⟩) x11_1.length co18)) (ok := (fun _ => True)) (by (with_reducible repeat (first | apply Kd.R_alloc | apply Kd.R_drewN | apply Kd.R_drew)); exact Kd.R_mono HO_12.out (fun _ hk => ⟨trivial, hk⟩)) hg (.inl rfl)); have n2_ := Aside0.mk ((by rw [hw]; exact below_set (HB.out) GB18.out : Below w.heap.size w w22)); clear HO_11; clear HO_12; clear HB; have HO_11 := n0_; have HO_12 := n1_; have HB := n2_; clear n0_ n1_ n2_; clear hg hw hp_; have p20 : 0 ≤ (x13_1 : Int) := of_decide_eq_true (by first | (with_reducible assumption) | assumption); have q20 : (x13_1 : Int) < ((x12_1.length : Int) : Int) := of_decide_eq_true (by first | (with_reducible assumption) | assumption); obtain ⟨go20, co20, eo20, gb20, gl20, cl20, HG20⟩ := Kd.R_form HO_12.out (by omega); (first | cases eo20 | (injection eo20 with ea_ en_ ec_; (first | subst ea_ | (injection ea_ with ea_; subst ea_)); subst ec_; clear en_)); have GB20 := Aside0.mk gb20; have GG20 := Aside0.mk HG20; clear gb20 gl20 HG20; obtain ⟨hx20_0, hf20_0⟩ := Kd.R_celln 0 HO_12.out (x13_1 : Int) p20 q20; replace p20 := eq_true p20; replace q20 := eq_true q20; have n_ := Aside0.mk (Kd.R_mono (ok' := (fun k_ => some k_ ≠ (.slice (some ⟨go18, 0, none⟩) x11_1.length co18 : Value).ownBlock)) HO_12.out (fun k_ hk => hk.2)); clear HO_12; have HO_12 := n_; clear n_; obtain ⟨hy23_, hz23_⟩ := Kd.R_celln 0 HO_12.out (x13_1 : Int) (of_decide_eq_true (by first | (with_reducible assumption) | assumption)) (of_decide_eq_true (by first | (with_reducible assumption) | assumption)); have HP23 := Kd.R_putg HO_12.out (x13_1 : Int) t245) | ((with_reducible refine gate_store (t := 2) (p := 72) rfl ?_); (try (rw [drewN_self w22]; generalize hq_ : World.drewN w22 _ = w22; have n0_ := Aside0.mk (Kd.R_at hq_ HO_11.out); have n1_ := Aside0.mk (Kd.R_at hq_ HO_12.out); have n2_ := Aside0.mk (below_at hq_ HB.out); clear hq_ HO_11 HO_12 HB; have HO_11 := n0_; have HO_12 := n1_; have HB := n2_; clear n0_ n1_ n2_; (try (have n_ := Aside0.mk (Kd.R_mono (ok' := (fun k_ => some k_ ≠ (.slice (some ⟨go18, 0, none⟩) x11_1.length co18 : Value).ownBlock)) HO_12.out (fun k_ hk => hk.2)); clear HO_12; have HO_12 := n_; clear n_)); (try (obtain ⟨hy23_, hz23_⟩ := Kd.R_celln 0 HO_12.out (x13_1 : Int) (of_decide_eq_true (by first | (with_reducible assumption) | assumption)) (of_decide_eq_true (by first | (with_reducible assumption) | assumption)))); (try (have HP23 := Kd.R_putg HO_12.out (x13_1 : Int) t245)))); refine store_event (t := 2) (p := 72) (v := ?vo_w24) (w1 := (w22.setCell ⟨go20, (x13_1 : Int).toNat, none⟩ (.int .i64 t245))) ?hg ?ho ?hn ?hr ?_; (case ho => rfl); (case hg => rfl); (case hn => rfl); (case hr => first | (go_simp; done) | (go_simp; rfl)); intro w24 hw; have hg : w22.grownBy w24 (some go20) := (by rw [hw]; exact HP23.2); have hp_ : Kd.R (Kd.int .i64) 2 w24 w.heap.size (fun k_ => some k_ ≠ (.slice (some ⟨go18, 0, none⟩) x11_1.length co18 : Value).ownBlock) (.slice (some ⟨go20, 0, none⟩) x12_1.length co20) y247 := (by rw [hw, Ny247.out]; exact HP23.1); clear HP23; have n0_ := Aside0.mk (Kd.R_after (v := (.slice (some ⟨go20, 0, none⟩) x12_1.length co20)) (v1 := (.slice (some ⟨go20, 0, none⟩) x12_1.length co20)) (ok := (fun _ => True)) (by (with_reducible repeat (first | apply Kd.R_alloc | apply Kd.R_drewN | apply Kd.R_drew)); exact Kd.R_mono HO_11.out (fun _ hk => ⟨trivial, hk⟩)) hg (.inl rfl)); have n1_ := Aside0.mk (hp_); have n2_ := Aside0.mk ((by rw [hw]; exact below_set (HB.out) GB20.out : Below w.heap.size w w24)); clear HO_11; clear HO_12; clear HB; have HO_11 := n0_; have HO_12 := n1_; have HB := n2_; clear n0_ n1_ n2_; clear hg hw hp_))
           repeat (go_quiet (first | (go_at_call 218; (with_reducible refine (spec_l5Back.calls a0 x13_1 (rd l1 (ji11)) (rd l2 x13_1) t244 t245 _ A16.out).mono ?_); rintro e w' ⟨rfl, ⟨nd, rfl⟩⟩; (try first | exact ⟨rfl, _, World.drewN_drewN _ _ _⟩ | exact ⟨rfl, _, Eq.trans (World.drewN_drewN _ _ _) (congrArg (World.drewN _) (Nat.add_assoc _ _ _))⟩); have p18 : 0 ≤ ((ji11) : Int) := of_decide_eq_true (by first | (with_reducible assumption) | assumption); have q18 : ((ji11) : Int) < ((x11_1.length : Int) : Int) := of_decide_eq_true (by first | (with_reducible assumption) | assumption); obtain ⟨go18, co18, eo18, gb18, gl18, cl18, HG18⟩ := Kd.R_form HO_11.out (by omega); (first | cases eo18 | (injection eo18 with ea_ en_ ec_; (first | subst ea_ | (injection ea_ with ea_; subst ea_)); subst ec_; clear en_)); have GB18 := Aside0.mk gb18; have GG18 := Aside0.mk HG18; clear gb18 gl18 HG18; obtain ⟨hx18_0, hf18_0⟩ := Kd.R_celln 0 HO_11.out ((ji11) : Int) p18 q18; replace p18 := eq_true p18; replace q18 := eq_true q18; obtain ⟨hy21_, hz21_⟩ := Kd.R_celln 0 HO_11.out ((ji11) : Int) (of_decide_eq_true (by first | (with_reducible assumption) | assumption)) (of_decide_eq_true (by first | (with_reducible assumption) | assumption)); have HP21 := Kd.R_putg HO_11.out ((ji11) : Int) t244) | ((with_reducible refine gate_store (t := 2) (p := 68) rfl ?_); (try (rw [drewN_self wr]; generalize hq_ : World.drewN wr _ = wr; have n0_ := Aside0.mk (Kd.R_at hq_ HO_11.out); have n1_ := Aside0.mk (Kd.R_at hq_ HO_12.out); have n2_ := Aside0.mk (below_at hq_ HB.out); clear hq_ HO_11 HO_12 HB; have HO_11 := n0_; have HO_12 := n1_; have HB := n2_; clear n0_ n1_ n2_; (try (obtain ⟨hy21_, hz21_⟩ := Kd.R_celln 0 HO_11.out ((ji11) : Int) (of_decide_eq_true (by first | (with_reducible assumption) | assumption)) (of_decide_eq_true (by first | (with_reducible assumption) | assumption)))); (try (have HP21 := Kd.R_putg HO_11.out ((ji11) : Int) t244)))); refine store_event (t := 2) (p := 68) (v := ?vo_w22) (w1 := (wr.setCell ⟨go18, ((ji11) : Int).toNat, none⟩ (.int .i64 t244))) ?hg ?ho ?hn ?hr ?_; (case ho => rfl); (case hg => rfl); (case hn => rfl); (case hr => first | (go_simp; done) | (go_simp; rfl)); intro w22 hw; have hg : wr.grownBy w22 (some go18) := (by rw [hw]; exact HP21.2); have hp_ : Kd.R (Kd.int .i64) 2 w22 w.heap.size (fun k_ => some k_ ≠ (v240 : Value).ownBlock) (.slice (some ⟨go18, 0, none⟩) x11_1.length co18) y246 := (by rw [hw, Ny246.out]; exact HP21.1); clear HP21; have n0_ := Aside0.mk (hp_); have n1_ := Aside0.mk (Kd.R_after (v := (.slice (some ⟨go18, 0, none⟩) x11_1.length co18)) (v1 := (.slice (some ⟨go18, 0, none⟩) x11_1.length co18)) (ok := (fun _ => True)) (by (with_reducible repeat (first | apply Kd.R_alloc | apply Kd.R_drewN | apply Kd.R_drew)); exact Kd.R_mono HO_12.out (fun _ hk => ⟨trivial, hk⟩)) hg (.inl rfl)); have n2_ := Aside0.mk ((by rw [hw]; exact below_set (HB.out) GB18.out : Below w.heap.size w w22)); clear HO_11; clear HO_12; clear HB; have HO_11 := n0_; have HO_12 := n1_; have HB := n2_; clear n0_ n1_ n2_; clear hg hw hp_; have p20 : 0 ≤ (x13_1 : Int) := of_decide_eq_true (by first | (with_reducible assumption) | assumption); have q20 : (x13_1 : Int) < ((x12_1.length : Int) : Int) := of_decide_eq_true (by first | (with_reducible assumption) | assumption); obtain ⟨go20, co20, eo20, gb20, gl20, cl20, HG20⟩ := Kd.R_form HO_12.out (by omega); (first | cases eo20 | (injection eo20 with ea_ en_ ec_; (first | subst ea_ | (injection ea_ with ea_; subst ea_)); subst ec_; clear en_)); have GB20 := Aside0.mk gb20; have GG20 := Aside0.mk HG20; clear gb20 gl20 HG20; obtain ⟨hx20_0, hf20_0⟩ := Kd.R_celln 0 HO_12.out (x13_1 : Int) p20 q20; replace p20 := eq_true p20; replace q20 := eq_true q20; have n_ := Aside0.mk (Kd.R_mono (ok' := (fun k_ => some k_ ≠ (.slice (some ⟨go18, 0, none⟩) x11_1.length co18 : Value).ownBlock)) HO_12.out (fun k_ hk => hk.2)); clear HO_12; have HO_12 := n_; clear n_; obtain ⟨hy23_, hz23_⟩ := Kd.R_celln 0 HO_12.out (x13_1 : Int) (of_decide_eq_true (by first | (with_reducible assumption) | assumption)) (of_decide_eq_true (by first | (with_reducible assumption) | assumption)); have HP23 := Kd.R_putg HO_12.out (x13_1 : Int) t245) | ((with_reducible refine gate_store (t := 2) (p := 72) rfl ?_); (try (rw [drewN_self w22]; generalize hq_ : World.drewN w22 _ = w22; have n0_ := Aside0.mk (Kd.R_at hq_ HO_11.out); have n1_ := Aside0.mk (Kd.R_at hq_ HO_12.out); have n2_ := Aside0.mk (below_at hq_ HB.out); clear hq_ HO_11 HO_12 HB; have HO_11 := n0_; have HO_12 := n1_; have HB := n2_; clear n0_ n1_ n2_; (try (have n_ := Aside0.mk (Kd.R_mono (ok' := (fun k_ => some k_ ≠ (.slice (some ⟨go18, 0, none⟩) x11_1.length co18 : Value).ownBlock)) HO_12.out (fun k_ hk => hk.2)); clear HO_12; have HO_12 := n_; clear n_)); (try (obtain ⟨hy23_, hz23_⟩ := Kd.R_celln 0 HO_12.out (x13_1 : Int) (of_decide_eq_true (by first | (with_reducible assumption) | assumption)) (of_decide_eq_true (by first | (with_reducible assumption) | assumption)))); (try (have HP23 := Kd.R_putg HO_12.out (x13_1 : Int) t245)))); refine store_event (t := 2) (p := 72) (v := ?vo_w24) (w1 := (w22.setCell ⟨go20, (x13_1 : Int).toNat, none⟩ (.int .i64 t245))) ?hg ?ho ?hn ?hr ?_; (case ho => rfl); (case hg => rfl); (case hn => rfl); (case hr => first | (go_simp; done) | (go_simp; rfl)); intro w24 hw; have hg : w22.grownBy w24 (some go20) := (by rw [hw]; exact HP23.2); have hp_ : Kd.R (Kd.int .i64) 2 w24 w.heap.size (fun k_ => some k_ ≠ (.slice (some ⟨go18, 0, none⟩) x11_1.length co18 : Value).ownBlock) (.slice (some ⟨go20, 0, none⟩) x12_1.length co20) y247 := (by rw [hw, Ny247.out]; exact HP23.1); clear HP23; have n0_ := Aside0.mk (Kd.R_after (v := (.slice (some ⟨go20, 0, none⟩) x12_1.length co20)) (v1 := (.slice (some ⟨go20, 0, none⟩) x12_1.length co20)) (ok := (fun _ => True)) (by (with_reducible repeat (first | apply Kd.R_alloc | apply Kd.R_drewN | apply Kd.R_drew)); exact Kd.R_mono HO_11.out (fun _ hk => ⟨trivial, hk⟩)) hg (.inl rfl)); have n1_ := Aside0.mk (hp_); have n2_ := Aside0.mk ((by rw [hw]; exact below_set (HB.out) GB20.out : Below w.heap.size w w24)); clear HO_11; clear HO_12; clear HB; have HO_11 := n0_; have HO_12 := n1_; have HB := n2_; clear n0_ n1_ n2_; clear hg hw hp_)); try go_wp2_with (first | (go_at_call 218; (with_reducible refine (spec_l5Back.calls a0 x13_1 (rd l1 (ji11)) (rd l2 x13_1) t244 t245 _ A16.out).mono ?_); rintro e w' ⟨rfl, ⟨nd, rfl⟩⟩; (try first | exact ⟨rfl, _, World.drewN_drewN _ _ _⟩ | exact ⟨rfl, _, Eq.trans (World.drewN_drewN _ _ _) (congrArg (World.drewN _) (Nat.add_assoc _ _ _))⟩); have p18 : 0 ≤ ((ji11) : Int) := of_decide_eq_true (by first | (with_reducible assumption) | assumption); have q18 : ((ji11) : Int) < ((x11_1.length : Int) : Int) := of_decide_eq_true (by first | (with_reducible assumption) | assumption); obtain ⟨go18, co18, eo18, gb18, gl18, cl18, HG18⟩ := Kd.R_form HO_11.out (by omega); (first | cases eo18 | (injection eo18 with ea_ en_ ec_; (first | subst ea_ | (injection ea_ with ea_; subst ea_)); subst ec_; clear en_)); have GB18 := Aside0.mk gb18; have GG18 := Aside0.mk HG18; clear gb18 gl18 HG18; obtain ⟨hx18_0, hf18_0⟩ := Kd.R_celln 0 HO_11.out ((ji11) : Int) p18 q18; replace p18 := eq_true p18; replace q18 := eq_true q18; obtain ⟨hy21_, hz21_⟩ := Kd.R_celln 0 HO_11.out ((ji11) : Int) (of_decide_eq_true (by first | (with_reducible assumption) | assumption)) (of_decide_eq_true (by first | (with_reducible assumption) | assumption)); have HP21 := Kd.R_putg HO_11.out ((ji11) : Int) t244) | ((with_reducible refine gate_store (t := 2) (p := 68) rfl ?_); (try (rw [drewN_self wr]; generalize hq_ : World.drewN wr _ = wr; have n0_ := Aside0.mk (Kd.R_at hq_ HO_11.out); have n1_ := Aside0.mk (Kd.R_at hq_ HO_12.out); have n2_ := Aside0.mk (below_at hq_ HB.out); clear hq_ HO_11 HO_12 HB; have HO_11 := n0_; have HO_12 := n1_; have HB := n2_; clear n0_ n1_ n2_; (try (obtain ⟨hy21_, hz21_⟩ := Kd.R_celln 0 HO_11.out ((ji11) : Int) (of_decide_eq_true (by first | (with_reducible assumption) | assumption)) (of_decide_eq_true (by first | (with_reducible assumption) | assumption)))); (try (have HP21 := Kd.R_putg HO_11.out ((ji11) : Int) t244)))); refine store_event (t := 2) (p := 68) (v := ?vo_w22) (w1 := (wr.setCell ⟨go18, ((ji11) : Int).toNat, none⟩ (.int .i64 t244))) ?hg ?ho ?hn ?hr ?_; (case ho => rfl); (case hg => rfl); (case hn => rfl); (case hr => first | (go_simp; done) | (go_simp; rfl)); intro w22 hw; have hg : wr.grownBy w22 (some go18) := (by rw [hw]; exact HP21.2); have hp_ : Kd.R (Kd.int .i64) 2 w22 w.heap.size (fun k_ => some k_ ≠ (v240 : Value).ownBlock) (.slice (some ⟨go18, 0, none⟩) x11_1.length co18) y246 := (by rw [hw, Ny246.out]; exact HP21.1); clear HP21; have n0_ := Aside0.mk (hp_); have n1_ := Aside0.mk (Kd.R_after (v := (.slice (some ⟨go18, 0, none⟩) x11_1.length co18)) (v1 := (.slice (some ⟨go18, 0, none⟩) x11_1.length co18)) (ok := (fun _ => True)) (by (with_reducible repeat (first | apply Kd.R_alloc | apply Kd.R_drewN | apply Kd.R_drew)); exact Kd.R_mono HO_12.out (fun _ hk => ⟨trivial, hk⟩)) hg (.inl rfl)); have n2_ := Aside0.mk ((by rw [hw]; exact below_set (HB.out) GB18.out : Below w.heap.size w w22)); clear HO_11; clear HO_12; clear HB; have HO_11 := n0_; have HO_12 := n1_; have HB := n2_; clear n0_ n1_ n2_; clear hg hw hp_; have p20 : 0 ≤ (x13_1 : Int) := of_decide_eq_true (by first | (with_reducible assumption) | assumption); have q20 : (x13_1 : Int) < ((x12_1.length : Int) : Int) := of_decide_eq_true (by first | (with_reducible assumption) | assumption); obtain ⟨go20, co20, eo20, gb20, gl20, cl20, HG20⟩ := Kd.R_form HO_12.out (by omega); (first | cases eo20 | (injection eo20 with ea_ en_ ec_; (first | subst ea_ | (injection ea_ with ea_; subst ea_)); subst ec_; clear en_)); have GB20 := Aside0.mk gb20; have GG20 := Aside0.mk HG20; clear gb20 gl20 HG20; obtain ⟨hx20_0, hf20_0⟩ := Kd.R_celln 0 HO_12.out (x13_1 : Int) p20 q20; replace p20 := eq_true p20; replace q20 := eq_true q20; have n_ := Aside0.mk (Kd.R_mono (ok' := (fun k_ => some k_ ≠ (.slice (some ⟨go18, 0, none⟩) x11_1.length co18 : Value).ownBlock)) HO_12.out (fun k_ hk => hk.2)); clear HO_12; have HO_12 := n_; clear n_; obtain ⟨hy23_, hz23_⟩ := Kd.R_celln 0 HO_12.out (x13_1 : Int) (of_decide_eq_true (by first | (with_reducible assumption) | assumption)) (of_decide_eq_true (by first | (with_reducible assumption) | assumption)); have HP23 := Kd.R_putg HO_12.out (x13_1 : Int) t245) | ((with_reducible refine gate_store (t := 2) (p := 72) rfl ?_); (try (rw [drewN_self w22]; generalize hq_ : World.drewN w22 _ = w22; have n0_ := Aside0.mk (Kd.R_at hq_ HO_11.out); have n1_ := Aside0.mk (Kd.R_at hq_ HO_12.out); have n2_ := Aside0.mk (below_at hq_ HB.out); clear hq_ HO_11 HO_12 HB; have HO_11 := n0_; have HO_12 := n1_; have HB := n2_; clear n0_ n1_ n2_; (try (have n_ := Aside0.mk (Kd.R_mono (ok' := (fun k_ => some k_ ≠ (.slice (some ⟨go18, 0, none⟩) x11_1.length co18 : Value).ownBlock)) HO_12.out (fun k_ hk => hk.2)); clear HO_12; have HO_12 := n_; clear n_)); (try (obtain ⟨hy23_, hz23_⟩ := Kd.R_celln 0 HO_12.out (x13_1 : Int) (of_decide_eq_true (by first | (with_reducible assumption) | assumption)) (of_decide_eq_true (by first | (with_reducible assumption) | assumption)))); (try (have HP23 := Kd.R_putg HO_12.out (x13_1 : Int) t245)))); refine store_event (t := 2) (p := 72) (v := ?vo_w24) (w1 := (w22.setCell ⟨go20, (x13_1 : Int).toNat, none⟩ (.int .i64 t245))) ?hg ?ho ?hn ?hr ?_; (case ho => rfl); (case hg => rfl); (case hn => rfl); (case hr => first | (go_simp; done) | (go_simp; rfl)); intro w24 hw; have hg : w22.grownBy w24 (some go20) := (by rw [hw]; exact HP23.2); have hp_ : Kd.R (Kd.int .i64) 2 w24 w.heap.size (fun k_ => some k_ ≠ (.slice (some ⟨go18, 0, none⟩) x11_1.length co18 : Value).ownBlock) (.slice (some ⟨go20, 0, none⟩) x12_1.length co20) y247 := (by rw [hw, Ny247.out]; exact HP23.1); clear HP23; have n0_ := Aside0.mk (Kd.R_after (v := (.slice (some ⟨go20, 0, none⟩) x12_1.length co20)) (v1 := (.slice (some ⟨go20, 0, none⟩) x12_1.length co20)) (ok := (fun _ => True)) (by (with_reducible repeat (first | apply Kd.R_alloc | apply Kd.R_drewN | apply Kd.R_drew)); exact Kd.R_mono HO_11.out (fun _ hk => ⟨trivial, hk⟩)) hg (.inl rfl)); have n1_ := Aside0.mk (hp_); have n2_ := Aside0.mk ((by rw [hw]; exact below_set (HB.out) GB20.out : Below w.heap.size w w24)); clear HO_11; clear HO_12; clear HB; have HO_11 := n0_; have HO_12 := n1_; have HB := n2_; clear n0_ n1_ n2_; clear hg hw hp_)))
           go_roundg k1
           case measure => have := HK1.out; omega
           case rel => exact ⟨(y246), (y247), (wrap64 (x13_1 + 1)), (by first | rfl | (simp; done) | (simp [*]; done)), H', ⟨by have := HK1.out; omega⟩, ⟨by (with_reducible repeat (first | apply Kd.R_alloc | apply Kd.R_drewN | apply Kd.R_drew)); exact Kd.R_mono HO_11.out (fun _ hk => hk.2)⟩, ⟨by (with_reducible repeat (first | apply Kd.R_alloc | apply Kd.R_drewN | apply Kd.R_drew)); exact HO_12.out⟩, ⟨by repeat (first | (with_reducible first | exact HB.out | apply below_alloc | apply pw_below_drewN | apply below_drew1) | exact HB.out)⟩⟩
          ·rw [if_neg c19] at H
           exact absurd H (by simp)
         ·rw [if_neg c17] at H
          exact absurd H (by simp)
        ·rw [if_neg c15] at H
         exact absurd H (by simp)
       ·rw [if_neg c14] at H
        exact absurd H (by simp)
      ·rw [if_neg c13] at H
       exact absurd H (by simp)
     ·rw [if_neg c12] at H
      exact absurd H (by simp)
    ·replace c10 := Bool.eq_false_iff.mpr c10
     subst c10
     replace H : (if 0 ≤ (wrap64 ((wrap64 ((wrap64 (Int.tdiv a0 2)) - 1)) - x13_1)) then (if (wrap64 ((wrap64 ((wrap64 (Int.tdiv a0 2)) - 1)) - x13_1)) < (l1.length : Int) then (if 0 ≤ x13_1 then (if x13_1 < (l2.length : Int) then ((spec_l5Turn.f a0 x13_1 (rd l1 (wrap64 ((wrap64 ((wrap64 (Int.tdiv a0 2)) - 1)) - x13_1))) (rd l2 x13_1)).bind fun bt250 => (if (wrap64 ((wrap64 ((wrap64 (Int.tdiv a0 2)) - 1)) - x13_1)) < (x11_1.length : Int) then (if x13_1 < (x12_1.length : Int) then (spec_l7Seam.l0 k1 a0 l1 l2 false (wrap64 (Int.tdiv a0 2)) (x11_1.set ((wrap64 ((wrap64 ((wrap64 (Int.tdiv a0 2)) - 1)) - x13_1)) : Int).toNat bt250.1) (x12_1.set (x13_1 : Int).toNat bt250.2) (wrap64 (x13_1 + 1))) else (none)) else (none))) else (none)) else (none)) else (none)) else (none)) = some (r1, r2) := by rw [if_neg (show ¬ (false = true) by decide)] at H; exact H
     obtain ⟨ji25, hji25⟩ : ∃ j_ : Int, (wrap64 ((wrap64 ((wrap64 (Int.tdiv a0 2)) - 1)) - x13_1)) = j_ := ⟨_, rfl⟩
     have hjq1_ji25 : (IntKind.i64.wrap ((wrap64 ((wrap64 (Int.tdiv a0 2)) - 1)) - x13_1)) = ji25 := by (try simp only [i64_w]); exact hji25
     have hjq2_ji25 : (IntKind.i64.wrap ((IntKind.i64.wrap ((wrap64 (Int.tdiv a0 2)) - 1)) - x13_1)) = ji25 := by (try simp only [i64_w]); exact hji25
     have hjq3_ji25 : (IntKind.i64.wrap ((IntKind.i64.wrap ((IntKind.i64.wrap (Int.tdiv a0 2)) - 1)) - x13_1)) = ji25 := by (try simp only [i64_w]); exact hji25
     replace H : (if 0 ≤ (ji25) then (if (ji25) < (l1.length : Int) then (if 0 ≤ x13_1 then (if x13_1 < (l2.length : Int) then ((spec_l5Turn.f a0 x13_1 (rd l1 (ji25)) (rd l2 x13_1)).bind fun bt250 => (if (ji25) < (x11_1.length : Int) then (if x13_1 < (x12_1.length : Int) then (spec_l7Seam.l0 k1 a0 l1 l2 false (wrap64 (Int.tdiv a0 2)) (x11_1.set ((ji25) : Int).toNat bt250.1) (x12_1.set (x13_1 : Int).toNat bt250.2) (wrap64 (x13_1 + 1))) else (none)) else (none))) else (none)) else (none)) else (none)) else (none)) = some (r1, r2) := by first | (rw [hji25] at H; exact H) | (simp only [hji25] at H ⊢; exact H)
     have hji25w : (IntKind.i64.wrap ((wrap64 ((wrap64 (Int.tdiv a0 2)) - 1)) - x13_1)) = ji25 := (i64_w _).trans hji25
     by_cases c26 : 0 ≤ (ji25)
     ·rw [if_pos c26] at H
      have c26b0 : decide (0 ≤ (ji25)) = true := decide_eq_true c26
      clear c26
      by_cases c27 : (ji25) < (l1.length : Int)
      ·rw [if_pos c27] at H
       have c27b0 : decide ((ji25) < (l1.length : Int)) = true := decide_eq_true c27
       clear c27
       by_cases c28 : 0 ≤ x13_1
       ·rw [if_pos c28] at H
        have c28b0 : decide (0 ≤ x13_1) = true := decide_eq_true c28
        clear c28
        by_cases c29 : x13_1 < (l2.length : Int)
        ·rw [if_pos c29] at H
         have c29b0 : decide (x13_1 < (l2.length : Int)) = true := decide_eq_true c29
         clear c29
         replace H := Option.bind_eq_some_iff.mp H
         obtain ⟨⟨t250, t251⟩, A300, H⟩ := H
         replace H : (if (ji25) < (x11_1.length : Int) then (if x13_1 < (x12_1.length : Int) then (spec_l7Seam.l0 k1 a0 l1 l2 false (wrap64 (Int.tdiv a0 2)) (x11_1.set ((ji25) : Int).toNat t250) (x12_1.set (x13_1 : Int).toNat t251) (wrap64 (x13_1 + 1))) else (none)) else (none)) = some (r1, r2) := H
         have A30 := Aside0.mk A300
         clear A300
         by_cases c31 : (ji25) < (x11_1.length : Int)
         ·rw [if_pos c31] at H
          have c31b0 : decide ((ji25) < (x11_1.length : Int)) = true := decide_eq_true c31
          clear c31
          obtain ⟨y252, hy252⟩ : ∃ y_ : List Int, y_ = (x11_1.set ((ji25) : Int).toNat t250) := ⟨_, rfl⟩
          replace H : (if x13_1 < (x12_1.length : Int) then (spec_l7Seam.l0 k1 a0 l1 l2 false (wrap64 (Int.tdiv a0 2)) y252 (x12_1.set (x13_1 : Int).toNat t251) (wrap64 (x13_1 + 1))) else (none)) = some (r1, r2) := by first | (rw [hy252]; with_reducible exact H) | (have H2_ := (Option.bind_some _ _).symm.trans H; rw [hy252]; with_reducible exact H2_) | (have H2_ := (Option.bind_some _ _).symm.trans H; with_reducible exact H2_) | with_reducible exact H | (rw [hy252]; exact H) | exact H
          have Ny252 := Aside0.mk hy252
          clear hy252
          by_cases c33 : x13_1 < (x12_1.length : Int)
          ·rw [if_pos c33] at H
           have c33b0 : decide (x13_1 < (x12_1.length : Int)) = true := decide_eq_true c33
           clear c33
           obtain ⟨y253, hy253⟩ : ∃ y_ : List Int, y_ = (x12_1.set (x13_1 : Int).toNat t251) := ⟨_, rfl⟩
           replace H : (spec_l7Seam.l0 k1 a0 l1 l2 false (wrap64 (Int.tdiv a0 2)) y252 y253 (wrap64 (x13_1 + 1))) = some (r1, r2) := by first | (rw [hy253]; with_reducible exact H) | (have H2_ := (Option.bind_some _ _).symm.trans H; rw [hy253]; with_reducible exact H2_) | (have H2_ := (Option.bind_some _ _).symm.trans H; with_reducible exact H2_) | with_reducible exact H | (rw [hy253]; exact H) | exact H
           have Ny253 := Aside0.mk hy253
           clear hy253
           have H' := Aside0.mk H
           clear H
           have p248 : 0 ≤ ((ji25) : Int) := of_decide_eq_true (by first | (with_reducible assumption) | assumption)
           have q248 : (ji25) < (l1.length : Int) := of_decide_eq_true (by first | (with_reducible assumption) | assumption)
           obtain ⟨ad248, e248, hx248_0⟩ := Kd.at_int HR1.out (ji25) p248 q248
           cases e248
           replace hx248_0 := (HB.out.cell (World.block_lt_of_cell? w _ hx248_0)).trans hx248_0
           replace p248 := eq_true p248
           replace q248 := eq_true q248
           have p249 : 0 ≤ (x13_1 : Int) := of_decide_eq_true (by first | (with_reducible assumption) | assumption)
           have q249 : x13_1 < (l2.length : Int) := of_decide_eq_true (by first | (with_reducible assumption) | assumption)
           obtain ⟨ad249, e249, hx249_0⟩ := Kd.at_int HR2.out x13_1 p249 q249
           cases e249
           replace hx249_0 := (HB.out.cell (World.block_lt_of_cell? w _ hx249_0)).trans hx249_0
           replace p249 := eq_true p249
           replace q249 := eq_true q249
           go_wp2_with (first | (go_at_call 219; (with_reducible refine (spec_l5Turn.calls a0 x13_1 (rd l1 (ji25)) (rd l2 x13_1) t250 t251 _ A30.out).mono ?_); rintro e w' ⟨rfl, ⟨nd, rfl⟩⟩; (try first | exact ⟨rfl, _, World.drewN_drewN _ _ _⟩ | exact ⟨rfl, _, Eq.trans (World.drewN_drewN _ _ _) (congrArg (World.drewN _) (Nat.add_assoc _ _ _))⟩); have p32 : 0 ≤ ((ji25) : Int) := of_decide_eq_true (by first | (with_reducible assumption) | assumption); have q32 : ((ji25) : Int) < ((x11_1.length : Int) : Int) := of_decide_eq_true (by first | (with_reducible assumption) | assumption); obtain ⟨go32, co32, eo32, gb32, gl32, cl32, HG32⟩ := Kd.R_form HO_11.out (by omega); (first | cases eo32 | (injection eo32 with ea_ en_ ec_; (first | subst ea_ | (injection ea_ with ea_; subst ea_)); subst ec_; clear en_)); have GB32 := Aside0.mk gb32; have GG32 := Aside0.mk HG32; clear gb32 gl32 HG32; obtain ⟨hx32_0, hf32_0⟩ := Kd.R_celln 0 HO_11.out ((ji25) : Int) p32 q32; replace p32 := eq_true p32; replace q32 := eq_true q32; obtain ⟨hy35_, hz35_⟩ := Kd.R_celln 0 HO_11.out ((ji25) : Int) (of_decide_eq_true (by first | (with_reducible assumption) | assumption)) (of_decide_eq_true (by first | (with_reducible assumption) | assumption)); have HP35 := Kd.R_putg HO_11.out ((ji25) : Int) t250) | ((with_reducible refine gate_store (t := 2) (p := 68) rfl ?_); (try (rw [drewN_self wr]; generalize hq_ : World.drewN wr _ = wr; have n0_ := Aside0.mk (Kd.R_at hq_ HO_11.out); have n1_ := Aside0.mk (Kd.R_at hq_ HO_12.out); have n2_ := Aside0.mk (below_at hq_ HB.out); clear hq_ HO_11 HO_12 HB; have HO_11 := n0_; have HO_12 := n1_; have HB := n2_; clear n0_ n1_ n2_; (try (obtain ⟨hy35_, hz35_⟩ := Kd.R_celln 0 HO_11.out ((ji25) : Int) (of_decide_eq_true (by first | (with_reducible assumption) | assumption)) (of_decide_eq_true (by first | (with_reducible assumption) | assumption)))); (try (have HP35 := Kd.R_putg HO_11.out ((ji25) : Int) t250)))); refine store_event (t := 2) (p := 68) (v := ?vo_w36) (w1 := (wr.setCell ⟨go32, ((ji25) : Int).toNat, none⟩ (.int .i64 t250))) ?hg ?ho ?hn ?hr ?_; (case ho => rfl); (case hg => rfl); (case hn => rfl); (case hr => first | (go_simp; done) | (go_simp; rfl)); intro w36 hw; have hg : wr.grownBy w36 (some go32) := (by rw [hw]; exact HP35.2); have hp_ : Kd.R (Kd.int .i64) 2 w36 w.heap.size (fun k_ => some k_ ≠ (v240 : Value).ownBlock) (.slice (some ⟨go32, 0, none⟩) x11_1.length co32) y252 := (by rw [hw, Ny252.out]; exact HP35.1); clear HP35; have n0_ := Aside0.mk (hp_); have n1_ := Aside0.mk (Kd.R_after (v := (.slice (some ⟨go32, 0, none⟩) x11_1.length co32)) (v1 := (.slice (some ⟨go32, 0, none⟩) x11_1.length co32)) (ok := (fun _ => True)) (by (with_reducible repeat (first | apply Kd.R_alloc | apply Kd.R_drewN | apply Kd.R_drew)); exact Kd.R_mono HO_12.out (fun _ hk => ⟨trivial, hk⟩)) hg (.inl rfl)); have n2_ := Aside0.mk ((by rw [hw]; exact below_set (HB.out) GB32.out : Below w.heap.size w w36)); clear HO_11; clear HO_12; clear HB; have HO_11 := n0_; have HO_12 := n1_; have HB := n2_; clear n0_ n1_ n2_; clear hg hw hp_; have p34 : 0 ≤ (x13_1 : Int) := of_decide_eq_true (by first | (with_reducible assumption) | assumption); have q34 : (x13_1 : Int) < ((x12_1.length : Int) : Int) := of_decide_eq_true (by first | (with_reducible assumption) | assumption); obtain ⟨go34, co34, eo34, gb34, gl34, cl34, HG34⟩ := Kd.R_form HO_12.out (by omega); (first | cases eo34 | (injection eo34 with ea_ en_ ec_; (first | subst ea_ | (injection ea_ with ea_; subst ea_)); subst ec_; clear en_)); have GB34 := Aside0.mk gb34; have GG34 := Aside0.mk HG34; clear gb34 gl34 HG34; obtain ⟨hx34_0, hf34_0⟩ := Kd.R_celln 0 HO_12.out (x13_1 : Int) p34 q34; replace p34 := eq_true p34; replace q34 := eq_true q34; have n_ := Aside0.mk (Kd.R_mono (ok' := (fun k_ => some k_ ≠ (.slice (some ⟨go32, 0, none⟩) x11_1.length co32 : Value).ownBlock)) HO_12.out (fun k_ hk => hk.2)); clear HO_12; have HO_12 := n_; clear n_; obtain ⟨hy37_, hz37_⟩ := Kd.R_celln 0 HO_12.out (x13_1 : Int) (of_decide_eq_true (by first | (with_reducible assumption) | assumption)) (of_decide_eq_true (by first | (with_reducible assumption) | assumption)); have HP37 := Kd.R_putg HO_12.out (x13_1 : Int) t251) | ((with_reducible refine gate_store (t := 2) (p := 72) rfl ?_); (try (rw [drewN_self w36]; generalize hq_ : World.drewN w36 _ = w36; have n0_ := Aside0.mk (Kd.R_at hq_ HO_11.out); have n1_ := Aside0.mk (Kd.R_at hq_ HO_12.out); have n2_ := Aside0.mk (below_at hq_ HB.out); clear hq_ HO_11 HO_12 HB; have HO_11 := n0_; have HO_12 := n1_; have HB := n2_; clear n0_ n1_ n2_; (try (have n_ := Aside0.mk (Kd.R_mono (ok' := (fun k_ => some k_ ≠ (.slice (some ⟨go32, 0, none⟩) x11_1.length co32 : Value).ownBlock)) HO_12.out (fun k_ hk => hk.2)); clear HO_12; have HO_12 := n_; clear n_)); (try (obtain ⟨hy37_, hz37_⟩ := Kd.R_celln 0 HO_12.out (x13_1 : Int) (of_decide_eq_true (by first | (with_reducible assumption) | assumption)) (of_decide_eq_true (by first | (with_reducible assumption) | assumption)))); (try (have HP37 := Kd.R_putg HO_12.out (x13_1 : Int) t251)))); refine store_event (t := 2) (p := 72) (v := ?vo_w38) (w1 := (w36.setCell ⟨go34, (x13_1 : Int).toNat, none⟩ (.int .i64 t251))) ?hg ?ho ?hn ?hr ?_; (case ho => rfl); (case hg => rfl); (case hn => rfl); (case hr => first | (go_simp; done) | (go_simp; rfl)); intro w38 hw; have hg : w36.grownBy w38 (some go34) := (by rw [hw]; exact HP37.2); have hp_ : Kd.R (Kd.int .i64) 2 w38 w.heap.size (fun k_ => some k_ ≠ (.slice (some ⟨go32, 0, none⟩) x11_1.length co32 : Value).ownBlock) (.slice (some ⟨go34, 0, none⟩) x12_1.length co34) y253 := (by rw [hw, Ny253.out]; exact HP37.1); clear HP37; have n0_ := Aside0.mk (Kd.R_after (v := (.slice (some ⟨go34, 0, none⟩) x12_1.length co34)) (v1 := (.slice (some ⟨go34, 0, none⟩) x12_1.length co34)) (ok := (fun _ => True)) (by (with_reducible repeat (first | apply Kd.R_alloc | apply Kd.R_drewN | apply Kd.R_drew)); exact Kd.R_mono HO_11.out (fun _ hk => ⟨trivial, hk⟩)) hg (.inl rfl)); have n1_ := Aside0.mk (hp_); have n2_ := Aside0.mk ((by rw [hw]; exact below_set (HB.out) GB34.out : Below w.heap.size w w38)); clear HO_11; clear HO_12; clear HB; have HO_11 := n0_; have HO_12 := n1_; have HB := n2_; clear n0_ n1_ n2_; clear hg hw hp_))
           repeat (go_quiet (first | (go_at_call 219; (with_reducible refine (spec_l5Turn.calls a0 x13_1 (rd l1 (ji25)) (rd l2 x13_1) t250 t251 _ A30.out).mono ?_); rintro e w' ⟨rfl, ⟨nd, rfl⟩⟩; (try first | exact ⟨rfl, _, World.drewN_drewN _ _ _⟩ | exact ⟨rfl, _, Eq.trans (World.drewN_drewN _ _ _) (congrArg (World.drewN _) (Nat.add_assoc _ _ _))⟩); have p32 : 0 ≤ ((ji25) : Int) := of_decide_eq_true (by first | (with_reducible assumption) | assumption); have q32 : ((ji25) : Int) < ((x11_1.length : Int) : Int) := of_decide_eq_true (by first | (with_reducible assumption) | assumption); obtain ⟨go32, co32, eo32, gb32, gl32, cl32, HG32⟩ := Kd.R_form HO_11.out (by omega); (first | cases eo32 | (injection eo32 with ea_ en_ ec_; (first | subst ea_ | (injection ea_ with ea_; subst ea_)); subst ec_; clear en_)); have GB32 := Aside0.mk gb32; have GG32 := Aside0.mk HG32; clear gb32 gl32 HG32; obtain ⟨hx32_0, hf32_0⟩ := Kd.R_celln 0 HO_11.out ((ji25) : Int) p32 q32; replace p32 := eq_true p32; replace q32 := eq_true q32; obtain ⟨hy35_, hz35_⟩ := Kd.R_celln 0 HO_11.out ((ji25) : Int) (of_decide_eq_true (by first | (with_reducible assumption) | assumption)) (of_decide_eq_true (by first | (with_reducible assumption) | assumption)); have HP35 := Kd.R_putg HO_11.out ((ji25) : Int) t250) | ((with_reducible refine gate_store (t := 2) (p := 68) rfl ?_); (try (rw [drewN_self wr]; generalize hq_ : World.drewN wr _ = wr; have n0_ := Aside0.mk (Kd.R_at hq_ HO_11.out); have n1_ := Aside0.mk (Kd.R_at hq_ HO_12.out); have n2_ := Aside0.mk (below_at hq_ HB.out); clear hq_ HO_11 HO_12 HB; have HO_11 := n0_; have HO_12 := n1_; have HB := n2_; clear n0_ n1_ n2_; (try (obtain ⟨hy35_, hz35_⟩ := Kd.R_celln 0 HO_11.out ((ji25) : Int) (of_decide_eq_true (by first | (with_reducible assumption) | assumption)) (of_decide_eq_true (by first | (with_reducible assumption) | assumption)))); (try (have HP35 := Kd.R_putg HO_11.out ((ji25) : Int) t250)))); refine store_event (t := 2) (p := 68) (v := ?vo_w36) (w1 := (wr.setCell ⟨go32, ((ji25) : Int).toNat, none⟩ (.int .i64 t250))) ?hg ?ho ?hn ?hr ?_; (case ho => rfl); (case hg => rfl); (case hn => rfl); (case hr => first | (go_simp; done) | (go_simp; rfl)); intro w36 hw; have hg : wr.grownBy w36 (some go32) := (by rw [hw]; exact HP35.2); have hp_ : Kd.R (Kd.int .i64) 2 w36 w.heap.size (fun k_ => some k_ ≠ (v240 : Value).ownBlock) (.slice (some ⟨go32, 0, none⟩) x11_1.length co32) y252 := (by rw [hw, Ny252.out]; exact HP35.1); clear HP35; have n0_ := Aside0.mk (hp_); have n1_ := Aside0.mk (Kd.R_after (v := (.slice (some ⟨go32, 0, none⟩) x11_1.length co32)) (v1 := (.slice (some ⟨go32, 0, none⟩) x11_1.length co32)) (ok := (fun _ => True)) (by (with_reducible repeat (first | apply Kd.R_alloc | apply Kd.R_drewN | apply Kd.R_drew)); exact Kd.R_mono HO_12.out (fun _ hk => ⟨trivial, hk⟩)) hg (.inl rfl)); have n2_ := Aside0.mk ((by rw [hw]; exact below_set (HB.out) GB32.out : Below w.heap.size w w36)); clear HO_11; clear HO_12; clear HB; have HO_11 := n0_; have HO_12 := n1_; have HB := n2_; clear n0_ n1_ n2_; clear hg hw hp_; have p34 : 0 ≤ (x13_1 : Int) := of_decide_eq_true (by first | (with_reducible assumption) | assumption); have q34 : (x13_1 : Int) < ((x12_1.length : Int) : Int) := of_decide_eq_true (by first | (with_reducible assumption) | assumption); obtain ⟨go34, co34, eo34, gb34, gl34, cl34, HG34⟩ := Kd.R_form HO_12.out (by omega); (first | cases eo34 | (injection eo34 with ea_ en_ ec_; (first | subst ea_ | (injection ea_ with ea_; subst ea_)); subst ec_; clear en_)); have GB34 := Aside0.mk gb34; have GG34 := Aside0.mk HG34; clear gb34 gl34 HG34; obtain ⟨hx34_0, hf34_0⟩ := Kd.R_celln 0 HO_12.out (x13_1 : Int) p34 q34; replace p34 := eq_true p34; replace q34 := eq_true q34; have n_ := Aside0.mk (Kd.R_mono (ok' := (fun k_ => some k_ ≠ (.slice (some ⟨go32, 0, none⟩) x11_1.length co32 : Value).ownBlock)) HO_12.out (fun k_ hk => hk.2)); clear HO_12; have HO_12 := n_; clear n_; obtain ⟨hy37_, hz37_⟩ := Kd.R_celln 0 HO_12.out (x13_1 : Int) (of_decide_eq_true (by first | (with_reducible assumption) | assumption)) (of_decide_eq_true (by first | (with_reducible assumption) | assumption)); have HP37 := Kd.R_putg HO_12.out (x13_1 : Int) t251) | ((with_reducible refine gate_store (t := 2) (p := 72) rfl ?_); (try (rw [drewN_self w36]; generalize hq_ : World.drewN w36 _ = w36; have n0_ := Aside0.mk (Kd.R_at hq_ HO_11.out); have n1_ := Aside0.mk (Kd.R_at hq_ HO_12.out); have n2_ := Aside0.mk (below_at hq_ HB.out); clear hq_ HO_11 HO_12 HB; have HO_11 := n0_; have HO_12 := n1_; have HB := n2_; clear n0_ n1_ n2_; (try (have n_ := Aside0.mk (Kd.R_mono (ok' := (fun k_ => some k_ ≠ (.slice (some ⟨go32, 0, none⟩) x11_1.length co32 : Value).ownBlock)) HO_12.out (fun k_ hk => hk.2)); clear HO_12; have HO_12 := n_; clear n_)); (try (obtain ⟨hy37_, hz37_⟩ := Kd.R_celln 0 HO_12.out (x13_1 : Int) (of_decide_eq_true (by first | (with_reducible assumption) | assumption)) (of_decide_eq_true (by first | (with_reducible assumption) | assumption)))); (try (have HP37 := Kd.R_putg HO_12.out (x13_1 : Int) t251)))); refine store_event (t := 2) (p := 72) (v := ?vo_w38) (w1 := (w36.setCell ⟨go34, (x13_1 : Int).toNat, none⟩ (.int .i64 t251))) ?hg ?ho ?hn ?hr ?_; (case ho => rfl); (case hg => rfl); (case hn => rfl); (case hr => first | (go_simp; done) | (go_simp; rfl)); intro w38 hw; have hg : w36.grownBy w38 (some go34) := (by rw [hw]; exact HP37.2); have hp_ : Kd.R (Kd.int .i64) 2 w38 w.heap.size (fun k_ => some k_ ≠ (.slice (some ⟨go32, 0, none⟩) x11_1.length co32 : Value).ownBlock) (.slice (some ⟨go34, 0, none⟩) x12_1.length co34) y253 := (by rw [hw, Ny253.out]; exact HP37.1); clear HP37; have n0_ := Aside0.mk (Kd.R_after (v := (.slice (some ⟨go34, 0, none⟩) x12_1.length co34)) (v1 := (.slice (some ⟨go34, 0, none⟩) x12_1.length co34)) (ok := (fun _ => True)) (by (with_reducible repeat (first | apply Kd.R_alloc | apply Kd.R_drewN | apply Kd.R_drew)); exact Kd.R_mono HO_11.out (fun _ hk => ⟨trivial, hk⟩)) hg (.inl rfl)); have n1_ := Aside0.mk (hp_); have n2_ := Aside0.mk ((by rw [hw]; exact below_set (HB.out) GB34.out : Below w.heap.size w w38)); clear HO_11; clear HO_12; clear HB; have HO_11 := n0_; have HO_12 := n1_; have HB := n2_; clear n0_ n1_ n2_; clear hg hw hp_)); try go_wp2_with (first | (go_at_call 219; (with_reducible refine (spec_l5Turn.calls a0 x13_1 (rd l1 (ji25)) (rd l2 x13_1) t250 t251 _ A30.out).mono ?_); rintro e w' ⟨rfl, ⟨nd, rfl⟩⟩; (try first | exact ⟨rfl, _, World.drewN_drewN _ _ _⟩ | exact ⟨rfl, _, Eq.trans (World.drewN_drewN _ _ _) (congrArg (World.drewN _) (Nat.add_assoc _ _ _))⟩); have p32 : 0 ≤ ((ji25) : Int) := of_decide_eq_true (by first | (with_reducible assumption) | assumption); have q32 : ((ji25) : Int) < ((x11_1.length : Int) : Int) := of_decide_eq_true (by first | (with_reducible assumption) | assumption); obtain ⟨go32, co32, eo32, gb32, gl32, cl32, HG32⟩ := Kd.R_form HO_11.out (by omega); (first | cases eo32 | (injection eo32 with ea_ en_ ec_; (first | subst ea_ | (injection ea_ with ea_; subst ea_)); subst ec_; clear en_)); have GB32 := Aside0.mk gb32; have GG32 := Aside0.mk HG32; clear gb32 gl32 HG32; obtain ⟨hx32_0, hf32_0⟩ := Kd.R_celln 0 HO_11.out ((ji25) : Int) p32 q32; replace p32 := eq_true p32; replace q32 := eq_true q32; obtain ⟨hy35_, hz35_⟩ := Kd.R_celln 0 HO_11.out ((ji25) : Int) (of_decide_eq_true (by first | (with_reducible assumption) | assumption)) (of_decide_eq_true (by first | (with_reducible assumption) | assumption)); have HP35 := Kd.R_putg HO_11.out ((ji25) : Int) t250) | ((with_reducible refine gate_store (t := 2) (p := 68) rfl ?_); (try (rw [drewN_self wr]; generalize hq_ : World.drewN wr _ = wr; have n0_ := Aside0.mk (Kd.R_at hq_ HO_11.out); have n1_ := Aside0.mk (Kd.R_at hq_ HO_12.out); have n2_ := Aside0.mk (below_at hq_ HB.out); clear hq_ HO_11 HO_12 HB; have HO_11 := n0_; have HO_12 := n1_; have HB := n2_; clear n0_ n1_ n2_; (try (obtain ⟨hy35_, hz35_⟩ := Kd.R_celln 0 HO_11.out ((ji25) : Int) (of_decide_eq_true (by first | (with_reducible assumption) | assumption)) (of_decide_eq_true (by first | (with_reducible assumption) | assumption)))); (try (have HP35 := Kd.R_putg HO_11.out ((ji25) : Int) t250)))); refine store_event (t := 2) (p := 68) (v := ?vo_w36) (w1 := (wr.setCell ⟨go32, ((ji25) : Int).toNat, none⟩ (.int .i64 t250))) ?hg ?ho ?hn ?hr ?_; (case ho => rfl); (case hg => rfl); (case hn => rfl); (case hr => first | (go_simp; done) | (go_simp; rfl)); intro w36 hw; have hg : wr.grownBy w36 (some go32) := (by rw [hw]; exact HP35.2); have hp_ : Kd.R (Kd.int .i64) 2 w36 w.heap.size (fun k_ => some k_ ≠ (v240 : Value).ownBlock) (.slice (some ⟨go32, 0, none⟩) x11_1.length co32) y252 := (by rw [hw, Ny252.out]; exact HP35.1); clear HP35; have n0_ := Aside0.mk (hp_); have n1_ := Aside0.mk (Kd.R_after (v := (.slice (some ⟨go32, 0, none⟩) x11_1.length co32)) (v1 := (.slice (some ⟨go32, 0, none⟩) x11_1.length co32)) (ok := (fun _ => True)) (by (with_reducible repeat (first | apply Kd.R_alloc | apply Kd.R_drewN | apply Kd.R_drew)); exact Kd.R_mono HO_12.out (fun _ hk => ⟨trivial, hk⟩)) hg (.inl rfl)); have n2_ := Aside0.mk ((by rw [hw]; exact below_set (HB.out) GB32.out : Below w.heap.size w w36)); clear HO_11; clear HO_12; clear HB; have HO_11 := n0_; have HO_12 := n1_; have HB := n2_; clear n0_ n1_ n2_; clear hg hw hp_; have p34 : 0 ≤ (x13_1 : Int) := of_decide_eq_true (by first | (with_reducible assumption) | assumption); have q34 : (x13_1 : Int) < ((x12_1.length : Int) : Int) := of_decide_eq_true (by first | (with_reducible assumption) | assumption); obtain ⟨go34, co34, eo34, gb34, gl34, cl34, HG34⟩ := Kd.R_form HO_12.out (by omega); (first | cases eo34 | (injection eo34 with ea_ en_ ec_; (first | subst ea_ | (injection ea_ with ea_; subst ea_)); subst ec_; clear en_)); have GB34 := Aside0.mk gb34; have GG34 := Aside0.mk HG34; clear gb34 gl34 HG34; obtain ⟨hx34_0, hf34_0⟩ := Kd.R_celln 0 HO_12.out (x13_1 : Int) p34 q34; replace p34 := eq_true p34; replace q34 := eq_true q34; have n_ := Aside0.mk (Kd.R_mono (ok' := (fun k_ => some k_ ≠ (.slice (some ⟨go32, 0, none⟩) x11_1.length co32 : Value).ownBlock)) HO_12.out (fun k_ hk => hk.2)); clear HO_12; have HO_12 := n_; clear n_; obtain ⟨hy37_, hz37_⟩ := Kd.R_celln 0 HO_12.out (x13_1 : Int) (of_decide_eq_true (by first | (with_reducible assumption) | assumption)) (of_decide_eq_true (by first | (with_reducible assumption) | assumption)); have HP37 := Kd.R_putg HO_12.out (x13_1 : Int) t251) | ((with_reducible refine gate_store (t := 2) (p := 72) rfl ?_); (try (rw [drewN_self w36]; generalize hq_ : World.drewN w36 _ = w36; have n0_ := Aside0.mk (Kd.R_at hq_ HO_11.out); have n1_ := Aside0.mk (Kd.R_at hq_ HO_12.out); have n2_ := Aside0.mk (below_at hq_ HB.out); clear hq_ HO_11 HO_12 HB; have HO_11 := n0_; have HO_12 := n1_; have HB := n2_; clear n0_ n1_ n2_; (try (have n_ := Aside0.mk (Kd.R_mono (ok' := (fun k_ => some k_ ≠ (.slice (some ⟨go32, 0, none⟩) x11_1.length co32 : Value).ownBlock)) HO_12.out (fun k_ hk => hk.2)); clear HO_12; have HO_12 := n_; clear n_)); (try (obtain ⟨hy37_, hz37_⟩ := Kd.R_celln 0 HO_12.out (x13_1 : Int) (of_decide_eq_true (by first | (with_reducible assumption) | assumption)) (of_decide_eq_true (by first | (with_reducible assumption) | assumption)))); (try (have HP37 := Kd.R_putg HO_12.out (x13_1 : Int) t251)))); refine store_event (t := 2) (p := 72) (v := ?vo_w38) (w1 := (w36.setCell ⟨go34, (x13_1 : Int).toNat, none⟩ (.int .i64 t251))) ?hg ?ho ?hn ?hr ?_; (case ho => rfl); (case hg => rfl); (case hn => rfl); (case hr => first | (go_simp; done) | (go_simp; rfl)); intro w38 hw; have hg : w36.grownBy w38 (some go34) := (by rw [hw]; exact HP37.2); have hp_ : Kd.R (Kd.int .i64) 2 w38 w.heap.size (fun k_ => some k_ ≠ (.slice (some ⟨go32, 0, none⟩) x11_1.length co32 : Value).ownBlock) (.slice (some ⟨go34, 0, none⟩) x12_1.length co34) y253 := (by rw [hw, Ny253.out]; exact HP37.1); clear HP37; have n0_ := Aside0.mk (Kd.R_after (v := (.slice (some ⟨go34, 0, none⟩) x12_1.length co34)) (v1 := (.slice (some ⟨go34, 0, none⟩) x12_1.length co34)) (ok := (fun _ => True)) (by (with_reducible repeat (first | apply Kd.R_alloc | apply Kd.R_drewN | apply Kd.R_drew)); exact Kd.R_mono HO_11.out (fun _ hk => ⟨trivial, hk⟩)) hg (.inl rfl)); have n1_ := Aside0.mk (hp_); have n2_ := Aside0.mk ((by rw [hw]; exact below_set (HB.out) GB34.out : Below w.heap.size w w38)); clear HO_11; clear HO_12; clear HB; have HO_11 := n0_; have HO_12 := n1_; have HB := n2_; clear n0_ n1_ n2_; clear hg hw hp_)))
           go_roundg k1
           case measure => have := HK1.out; omega
           case rel => exact ⟨(y252), (y253), (wrap64 (x13_1 + 1)), (by first | rfl | (simp; done) | (simp [*]; done)), H', ⟨by have := HK1.out; omega⟩, ⟨by (with_reducible repeat (first | apply Kd.R_alloc | apply Kd.R_drewN | apply Kd.R_drew)); exact Kd.R_mono HO_11.out (fun _ hk => hk.2)⟩, ⟨by (with_reducible repeat (first | apply Kd.R_alloc | apply Kd.R_drewN | apply Kd.R_drew)); exact HO_12.out⟩, ⟨by repeat (first | (with_reducible first | exact HB.out | apply below_alloc | apply pw_below_drewN | apply below_drew1) | exact HB.out)⟩⟩
          ·rw [if_neg c33] at H
           exact absurd H (by simp)
         ·rw [if_neg c31] at H
          exact absurd H (by simp)
        ·rw [if_neg c29] at H
         exact absurd H (by simp)
       ·rw [if_neg c28] at H
        exact absurd H (by simp)
      ·rw [if_neg c27] at H
       exact absurd H (by simp)
     ·rw [if_neg c26] at H
      exact absurd H (by simp)
   ·rw [if_neg c9] at H
    have c9b0 : decide (x13_1 < (wrap64 (Int.tdiv a0 2))) = false := decide_eq_false c9
    clear c9
    simp only [Option.some.injEq, Prod.mk.injEq] at H
    obtain ⟨rfl, rfl⟩ := H
    go_wp2
    repeat (go_quiet (fail); try go_wp2)
    go_ret2
    exact ⟨_, _, by first | rfl | (simp [errW_none, errW_some] <;> rfl) | (simp [*, errW_none, errW_some] <;> rfl), by (with_reducible repeat (first | apply Kd.R_alloc | apply Kd.R_drewN | apply Kd.R_drew)); exact HO_11.out, by (with_reducible repeat (first | apply Kd.R_alloc | apply Kd.R_drewN | apply Kd.R_drew)); exact HO_12.out, by repeat (first | (with_reducible first | exact HB.out | apply below_alloc | apply pw_below_drewN | apply below_drew1) | exact HB.out)⟩

/-! ### spec_l5Mix: function 225 -/
def spec_l5Mix.f (a0 : Int) (a1 : Int) : Option (Int × Int) := (spec_l1Floor.f (wrap64 (a0 - a1)) 2).bind fun t254 => (some (wrap64 (a1 + t254), wrap64 (a0 - a1)))
set_option maxHeartbeats 8000000 in
set_option maxRecDepth 100000 in
theorem spec_l5Mix.calls (a0 : Int) (a1 : Int) (r1 : Int) (r2 : Int) (w : World) (h : spec_l5Mix.f a0 a1 = some (r1, r2)) :
  Calls Try.prog 225 #[.int .i64 a0, .int .i64 a1] w fun e w' => e = .returned (.tuple #[.int .i64 r1, .int .i64 r2]) ∧ Drawn0 w w' := by
 have H : ((spec_l1Floor.f (wrap64 (a0 - a1)) 2).bind fun t254 => (some (wrap64 (a1 + t254), wrap64 (a0 - a1)))) = some (r1, r2) := h
 clear h
 replace H := Option.bind_eq_some_iff.mp H
 obtain ⟨t254, A30, H⟩ := H
 replace H : (some (wrap64 (a1 + t254), wrap64 (a0 - a1))) = some (r1, r2) := H
 have A3 := Aside0.mk A30
 clear A30
 simp only [Option.some.injEq, Prod.mk.injEq] at H
 obtain ⟨rfl, rfl⟩ := H
 go_enter Try.func225, Try.ntmps225
 go_wp2_with (first | ((with_reducible refine gate_callee (f := 178) rfl ?_); refine goesL_ (some 10) rfl rfl Try.func178 (by kernel_rfl) rfl #[.int .i64 (wrap64 (a0 - a1)), .int .i64 2] rfl (by (try simp only [List.map_toArray, List.map_cons, List.map_nil]); first | done | rfl | (simp only [List.length_drop, List.length_take]; rfl)) ?_; (with_reducible refine (spec_l1Floor.calls (wrap64 (a0 - a1)) 2 t254 _ A3.out).mono ?_); rintro e w' ⟨rfl, ⟨nd, rfl⟩⟩; refine ⟨_, rfl, ?_⟩))
 go_ret2
 exact ⟨by first | rfl | (simp; done) | (simp [*]; done), by repeat (first | exact Drawn0.refl _ | apply Drawn0.step)⟩

end Go.Proofs.Ytpbkbibjlbbkbaa.PFnBands
