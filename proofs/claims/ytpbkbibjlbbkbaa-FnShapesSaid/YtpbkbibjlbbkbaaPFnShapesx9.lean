-- Contracts of the functions that the law reaches, written by wip/xprint.py of this repo.
import Derived.Test.YtpbkbibjlbbkbaaPFnShapesx0
import Derived.Test.YtpbkbibjlbbkbaaPFnShapesx1
import Derived.Test.YtpbkbibjlbbkbaaPFnShapesx3
import Derived.Test.YtpbkbibjlbbkbaaPFnShapesx5
import Derived.Test.YtpbkbibjlbbkbaaPFnShapesx6
import Derived.Test.YtpbkbibjlbbkbaaPFnShapesx7
import Derived.Test.YtpbkbibjlbbkbaaPFnShapesx8
namespace Go.Proofs.Ytpbkbibjlbbkbaa.PFnShapes
open Go.RowKit Go.Proofs.YtpbkbibjlbbkbaaW.PrintWords Go.Proofs.YtpbkbibjlbbkbaaW.PrintLast Go.Proofs.YtpbkbibjlbbkbaaW.PrintMore
attribute [local go_sem] max2_int min2_int max_two min_two max_three min_three max_four min_four   -- for this text's walks alone
set_option linter.unusedVariables false
set_option linter.unusedSimpArgs false

/-! ### laws_FnShapes: function 12 -/
mutual
def laws_FnShapes.j0 : Nat → List Int → Int → Int → Int → Int → Bool → Int → List Int → Option (Bool)
 | 0, _, _, _, _, _, _, _, _ => none
 | k + 1, x3, x4, x6, x7, x8, x48, x347000, x347001 => if x48 = true then (laws_FnShapes.j1 k x3 x4 x6 x7 (wrap64 (x6 - x7)) x347000 x347001) else (laws_FnShapes.j1 k x3 x4 x6 x7 x8 x347000 x347001)
def laws_FnShapes.j1 : Nat → List Int → Int → Int → Int → Int → Int → List Int → Option (Bool)
 | 0, _, _, _, _, _, _, _ => none
 | k + 1, x3, x4, x6, x7, x8, x347000, x347001 => (impl_ShapeOf.f k x347001 x4 x8).bind fun bt355 => ((impl_ShapeBound.f x6 x4 x7).bind fun bt360 => (if bt355.1 = 0 then (laws_FnShapes.j2 k x3 x4 x6 x7 x8 (bt360.1 != 0) x347000 x347001 bt355.1 bt355.2 bt360.1 bt360.2) else (laws_FnShapes.j2 k x3 x4 x6 x7 x8 true x347000 x347001 bt355.1 bt355.2 bt360.1 bt360.2)))
def laws_FnShapes.j2 : Nat → List Int → Int → Int → Int → Int → Bool → Int → List Int → Int → List Int → Int → Int → Option (Bool)
 | 0, _, _, _, _, _, _, _, _, _, _, _, _ => none
 | k + 1, x3, x4, x6, x7, x8, x68, x347000, x347001, x360000, x360001, x363000, x363001 => if x68 = true then ((spec_ShapeOf.f k x347001 x4 x8).bind fun bt363 => (if x360000 = bt363.1 then ((spec_ShapeBound.f x6 x4 x7).bind fun bt367 => (some (x363000 == bt367.1))) else (none))) else (laws_FnShapes.l0 k x3 x4 x6 x7 (([] : List Int)) 0 x347000 x347001 x360000 x360001 x363000 x363001)
def laws_FnShapes.l0 : Nat → List Int → Int → Int → Int → List Int → Int → Int → List Int → Int → List Int → Int → Int → Option (Bool)
 | 0, _, _, _, _, _, _, _, _, _, _, _, _ => none
 | k + 1, x3, x4, x6, x7, x11, x12, x347000, x347001, x360000, x360001, x363000, x363001 => if x12 < (x3.length : Int) then (if x11.length < 17592186044416 then (laws_FnShapes.l0 k x3 x4 x6 x7 (x11 ++ [x363001]) (wrap64 (x12 + 1)) x347000 x347001 x360000 x360001 x363000 x363001) else (none)) else ((impl_PulsesFault.f k x347001 x4).bind fun t375 => (if t375 = 0 then ((impl_IsWithin.f k x360001 x3 x11).bind fun t376 => (if t376 = true then ((spec_ShapeBound.f x6 x4 x7).bind fun bt377 => (some (x363001 == bt377.2))) else (none))) else (none)))
end
def laws_FnShapes.f (k : Nat) (l0 : List Int) : Option (Bool) := (laws_lwBig.f l0).bind fun t337 => (if t337 = true then (some true) else ((spec_DrawSearchPulses.f k l0).bind fun bt338 => ((impl_SearchPulses.f k bt338.1 bt338.2).bind fun bt342 => ((spec_SearchPulses.f k bt338.1 bt338.2).bind fun bt347 => (if bt342.1 = bt347.1 then (if bt342.1 = 0 then ((impl_NormOf.f k bt338.1).bind fun bt351 => ((laws_lwAt.f l0 2 400).bind fun t353 => ((laws_lwAt.f l0 3 2).bind fun t354 => (if t354 = 0 then (laws_FnShapes.j0 k bt338.1 bt338.2 bt351.2 t353 (wrap64 (bt351.2 + t353)) (decide (t353 ≤ bt351.2)) bt342.1 bt342.2) else (laws_FnShapes.j0 k bt338.1 bt338.2 bt351.2 t353 (wrap64 (bt351.2 + t353)) false bt342.1 bt342.2))))) else (some true)) else (none))))))
theorem laws_FnShapes.mono_l : ∀ k, (∀ y0 y1 y2 y3 y4 y5 y6 y7, LeO (laws_FnShapes.j0 k y0 y1 y2 y3 y4 y5 y6 y7) (laws_FnShapes.j0 (k + 1) y0 y1 y2 y3 y4 y5 y6 y7)) ∧ (∀ y0 y1 y2 y3 y4 y5 y6, LeO (laws_FnShapes.j1 k y0 y1 y2 y3 y4 y5 y6) (laws_FnShapes.j1 (k + 1) y0 y1 y2 y3 y4 y5 y6)) ∧ (∀ y0 y1 y2 y3 y4 y5 y6 y7 y8 y9 y10 y11, LeO (laws_FnShapes.j2 k y0 y1 y2 y3 y4 y5 y6 y7 y8 y9 y10 y11) (laws_FnShapes.j2 (k + 1) y0 y1 y2 y3 y4 y5 y6 y7 y8 y9 y10 y11)) ∧ (∀ y0 y1 y2 y3 y4 y5 y6 y7 y8 y9 y10 y11, LeO (laws_FnShapes.l0 k y0 y1 y2 y3 y4 y5 y6 y7 y8 y9 y10 y11) (laws_FnShapes.l0 (k + 1) y0 y1 y2 y3 y4 y5 y6 y7 y8 y9 y10 y11))
 | 0 => ⟨fun _ _ _ _ _ _ _ _ r h => by simp [laws_FnShapes.j0] at h, fun _ _ _ _ _ _ _ r h => by simp [laws_FnShapes.j1] at h, fun _ _ _ _ _ _ _ _ _ _ _ _ r h => by simp [laws_FnShapes.j2] at h, fun _ _ _ _ _ _ _ _ _ _ _ _ r h => by simp [laws_FnShapes.l0] at h⟩
 | k + 1 => by
  obtain ⟨ih0, ih1, ih2, ih3⟩ := laws_FnShapes.mono_l k
  refine ⟨?_, ?_, ?_, ?_⟩
  ·intro y0 y1 y2 y3 y4 y5 y6 y7
   unfold laws_FnShapes.j0
   repeat' first
   | (with_reducible exact ih0 _ _ _ _ _ _ _ _)
   | (with_reducible exact ih1 _ _ _ _ _ _ _)
   | (with_reducible exact ih2 _ _ _ _ _ _ _ _ _ _ _ _)
   | (with_reducible exact ih3 _ _ _ _ _ _ _ _ _ _ _ _)
   | (with_reducible exact impl_IsWithin.mono _ _ _ _)
   | (with_reducible exact impl_NormOf.mono _ _)
   | (with_reducible exact impl_PulsesFault.mono _ _ _)
   | (with_reducible exact impl_SearchPulses.mono _ _ _)
   | (with_reducible exact impl_ShapeOf.mono _ _ _ _)
   | (with_reducible exact spec_DrawSearchPulses.mono _ _)
   | (with_reducible exact spec_SearchPulses.mono _ _ _)
   | (with_reducible exact spec_ShapeOf.mono _ _ _ _)
   | (with_reducible exact LeO.refl _)
   | (with_reducible exact LeO.none _)
   | (with_reducible refine LeO.ite ?_ ?_)
   | (with_reducible refine LeO.bind ?_ (fun _ => ?_))
   | exact ih0 _ _ _ _ _ _ _ _
   | exact ih1 _ _ _ _ _ _ _
   | exact ih2 _ _ _ _ _ _ _ _ _ _ _ _
   | exact ih3 _ _ _ _ _ _ _ _ _ _ _ _
   | exact impl_IsWithin.mono _ _ _ _
   | exact impl_NormOf.mono _ _
   | exact impl_PulsesFault.mono _ _ _
   | exact impl_SearchPulses.mono _ _ _
   | exact impl_ShapeOf.mono _ _ _ _
   | exact spec_DrawSearchPulses.mono _ _
   | exact spec_SearchPulses.mono _ _ _
   | exact spec_ShapeOf.mono _ _ _ _
   | exact LeO.none _
   | refine LeO.ite ?_ ?_
   | refine LeO.bind ?_ (fun _ => ?_)
  ·intro y0 y1 y2 y3 y4 y5 y6
   unfold laws_FnShapes.j1
   repeat' first
   | (with_reducible exact ih0 _ _ _ _ _ _ _ _)
   | (with_reducible exact ih1 _ _ _ _ _ _ _)
   | (with_reducible exact ih2 _ _ _ _ _ _ _ _ _ _ _ _)
   | (with_reducible exact ih3 _ _ _ _ _ _ _ _ _ _ _ _)
   | (with_reducible exact impl_IsWithin.mono _ _ _ _)
   | (with_reducible exact impl_NormOf.mono _ _)
   | (with_reducible exact impl_PulsesFault.mono _ _ _)
   | (with_reducible exact impl_SearchPulses.mono _ _ _)
   | (with_reducible exact impl_ShapeOf.mono _ _ _ _)
   | (with_reducible exact spec_DrawSearchPulses.mono _ _)
   | (with_reducible exact spec_SearchPulses.mono _ _ _)
   | (with_reducible exact spec_ShapeOf.mono _ _ _ _)
   | (with_reducible exact LeO.refl _)
   | (with_reducible exact LeO.none _)
   | (with_reducible refine LeO.ite ?_ ?_)
   | (with_reducible refine LeO.bind ?_ (fun _ => ?_))
   | exact ih0 _ _ _ _ _ _ _ _
   | exact ih1 _ _ _ _ _ _ _
   | exact ih2 _ _ _ _ _ _ _ _ _ _ _ _
   | exact ih3 _ _ _ _ _ _ _ _ _ _ _ _
   | exact impl_IsWithin.mono _ _ _ _
   | exact impl_NormOf.mono _ _
   | exact impl_PulsesFault.mono _ _ _
   | exact impl_SearchPulses.mono _ _ _
   | exact impl_ShapeOf.mono _ _ _ _
   | exact spec_DrawSearchPulses.mono _ _
   | exact spec_SearchPulses.mono _ _ _
   | exact spec_ShapeOf.mono _ _ _ _
   | exact LeO.none _
   | refine LeO.ite ?_ ?_
   | refine LeO.bind ?_ (fun _ => ?_)
  ·intro y0 y1 y2 y3 y4 y5 y6 y7 y8 y9 y10 y11
   unfold laws_FnShapes.j2
   repeat' first
   | (with_reducible exact ih0 _ _ _ _ _ _ _ _)
   | (with_reducible exact ih1 _ _ _ _ _ _ _)
   | (with_reducible exact ih2 _ _ _ _ _ _ _ _ _ _ _ _)
   | (with_reducible exact ih3 _ _ _ _ _ _ _ _ _ _ _ _)
   | (with_reducible exact impl_IsWithin.mono _ _ _ _)
   | (with_reducible exact impl_NormOf.mono _ _)
   | (with_reducible exact impl_PulsesFault.mono _ _ _)
   | (with_reducible exact impl_SearchPulses.mono _ _ _)
   | (with_reducible exact impl_ShapeOf.mono _ _ _ _)
   | (with_reducible exact spec_DrawSearchPulses.mono _ _)
   | (with_reducible exact spec_SearchPulses.mono _ _ _)
   | (with_reducible exact spec_ShapeOf.mono _ _ _ _)
   | (with_reducible exact LeO.refl _)
   | (with_reducible exact LeO.none _)
   | (with_reducible refine LeO.ite ?_ ?_)
   | (with_reducible refine LeO.bind ?_ (fun _ => ?_))
   | exact ih0 _ _ _ _ _ _ _ _
   | exact ih1 _ _ _ _ _ _ _
   | exact ih2 _ _ _ _ _ _ _ _ _ _ _ _
   | exact ih3 _ _ _ _ _ _ _ _ _ _ _ _
   | exact impl_IsWithin.mono _ _ _ _
   | exact impl_NormOf.mono _ _
   | exact impl_PulsesFault.mono _ _ _
   | exact impl_SearchPulses.mono _ _ _
   | exact impl_ShapeOf.mono _ _ _ _
   | exact spec_DrawSearchPulses.mono _ _
   | exact spec_SearchPulses.mono _ _ _
   | exact spec_ShapeOf.mono _ _ _ _
   | exact LeO.none _
   | refine LeO.ite ?_ ?_
   | refine LeO.bind ?_ (fun _ => ?_)
  ·intro y0 y1 y2 y3 y4 y5 y6 y7 y8 y9 y10 y11
   unfold laws_FnShapes.l0
   repeat' first
   | (with_reducible exact ih0 _ _ _ _ _ _ _ _)
   | (with_reducible exact ih1 _ _ _ _ _ _ _)
   | (with_reducible exact ih2 _ _ _ _ _ _ _ _ _ _ _ _)
   | (with_reducible exact ih3 _ _ _ _ _ _ _ _ _ _ _ _)
   | (with_reducible exact impl_IsWithin.mono _ _ _ _)
   | (with_reducible exact impl_NormOf.mono _ _)
   | (with_reducible exact impl_PulsesFault.mono _ _ _)
   | (with_reducible exact impl_SearchPulses.mono _ _ _)
   | (with_reducible exact impl_ShapeOf.mono _ _ _ _)
   | (with_reducible exact spec_DrawSearchPulses.mono _ _)
   | (with_reducible exact spec_SearchPulses.mono _ _ _)
   | (with_reducible exact spec_ShapeOf.mono _ _ _ _)
   | (with_reducible exact LeO.refl _)
   | (with_reducible exact LeO.none _)
   | (with_reducible refine LeO.ite ?_ ?_)
   | (with_reducible refine LeO.bind ?_ (fun _ => ?_))
   | exact ih0 _ _ _ _ _ _ _ _
   | exact ih1 _ _ _ _ _ _ _
   | exact ih2 _ _ _ _ _ _ _ _ _ _ _ _
   | exact ih3 _ _ _ _ _ _ _ _ _ _ _ _
   | exact impl_IsWithin.mono _ _ _ _
   | exact impl_NormOf.mono _ _
   | exact impl_PulsesFault.mono _ _ _
   | exact impl_SearchPulses.mono _ _ _
   | exact impl_ShapeOf.mono _ _ _ _
   | exact spec_DrawSearchPulses.mono _ _
   | exact spec_SearchPulses.mono _ _ _
   | exact spec_ShapeOf.mono _ _ _ _
   | exact LeO.none _
   | refine LeO.ite ?_ ?_
   | refine LeO.bind ?_ (fun _ => ?_)
theorem laws_FnShapes.mono : ∀ a0 k, LeO (laws_FnShapes.f k a0) (laws_FnShapes.f (k + 1) a0) := by
 intro a0 k
 obtain ⟨ih0, ih1, ih2, ih3⟩ := laws_FnShapes.mono_l k
 unfold laws_FnShapes.f
 repeat' first
   | (with_reducible exact ih0 _ _ _ _ _ _ _ _)
   | (with_reducible exact ih1 _ _ _ _ _ _ _)
   | (with_reducible exact ih2 _ _ _ _ _ _ _ _ _ _ _ _)
   | (with_reducible exact ih3 _ _ _ _ _ _ _ _ _ _ _ _)
   | (with_reducible exact impl_IsWithin.mono _ _ _ _)
   | (with_reducible exact impl_NormOf.mono _ _)
   | (with_reducible exact impl_PulsesFault.mono _ _ _)
   | (with_reducible exact impl_SearchPulses.mono _ _ _)
   | (with_reducible exact impl_ShapeOf.mono _ _ _ _)
   | (with_reducible exact spec_DrawSearchPulses.mono _ _)
   | (with_reducible exact spec_SearchPulses.mono _ _ _)
   | (with_reducible exact spec_ShapeOf.mono _ _ _ _)
   | (with_reducible exact LeO.refl _)
   | (with_reducible exact LeO.none _)
   | (with_reducible refine LeO.ite ?_ ?_)
   | (with_reducible refine LeO.bind ?_ (fun _ => ?_))
   | exact ih0 _ _ _ _ _ _ _ _
   | exact ih1 _ _ _ _ _ _ _
   | exact ih2 _ _ _ _ _ _ _ _ _ _ _ _
   | exact ih3 _ _ _ _ _ _ _ _ _ _ _ _
   | exact impl_IsWithin.mono _ _ _ _
   | exact impl_NormOf.mono _ _
   | exact impl_PulsesFault.mono _ _ _
   | exact impl_SearchPulses.mono _ _ _
   | exact impl_ShapeOf.mono _ _ _ _
   | exact spec_DrawSearchPulses.mono _ _
   | exact spec_SearchPulses.mono _ _ _
   | exact spec_ShapeOf.mono _ _ _ _
   | exact LeO.none _
   | refine LeO.ite ?_ ?_
   | refine LeO.bind ?_ (fun _ => ?_)
def laws_FnShapes.T17 : Bool × List (List Nat × List Nat) := (true, [([], []), ([0], [0]), ([], []), ([2], [2]), ([], []), ([], []), ([3, 4, 5], [3, 4, 5]), ([6], [6]), ([1, 7], [1, 7]), ([8, 6], [8]), ([9], [9]), ([10, 9], [9, 10]), ([9], [9]), ([9], [9]), ([9], [9]), ([12, 13, 14, 9, 9], [9, 12, 13, 14]), ([15, 9], [9, 15]), ([11, 16, 9], [9, 11, 16]), ([9, 17], [9, 17]), ([18, 15, 0, 1, 2, 3, 4, 5, 6, 7, 8, 9, 10, 11, 12, 13, 14, 15, 16, 17, 18], [18])])
def laws_FnShapes.B17 : List Nat := [0, 1, 0, 4, 0, 0, 60, 124, 255, 511, 1023, 2047, 1023, 1023, 1023, 29695, 62463, 131071, 262143, 524287]
theorem laws_FnShapes.tab17 : rtab .any (opsOf Try.f12 17) = laws_FnShapes.T17 := by kernel_rfl
theorem laws_FnShapes.bits17 : waitsOk laws_FnShapes.T17.2 laws_FnShapes.B17 = true := by kernel_rfl
def laws_FnShapes.T23 : Bool × List (List Nat × List Nat) := (true, [([], []), ([0], [0]), ([], []), ([1, 2], [1, 2]), ([3], [3]), ([4, 3], [4]), ([5], [5]), ([6, 5], [5, 6]), ([5], [5]), ([5], [5]), ([7, 8, 9, 5, 5], [5, 7, 8, 9]), ([5, 10], [5, 10]), ([11, 10], [11]), ([12], [12]), ([13, 12], [12, 13]), ([12], [12]), ([12], [12]), ([12], [12]), ([15, 16, 17, 12, 12], [12, 15, 16, 17]), ([18, 12], [12, 18]), ([14, 19, 12], [12, 14, 19]), ([12, 20], [12, 20]), ([21, 18, 0, 1, 2, 3, 4, 5, 6, 7, 8, 9, 10, 11, 12, 13, 14, 15, 16, 17, 18, 19, 20, 21], [21])])
def laws_FnShapes.B23 : List Nat := [0, 1, 0, 7, 15, 31, 63, 127, 63, 63, 1023, 2047, 4095, 8191, 16383, 8191, 8191, 8191, 237567, 499711, 1048575, 2097151, 4194303]
theorem laws_FnShapes.tab23 : rtab .any (opsOf Try.f12 23) = laws_FnShapes.T23 := by kernel_rfl
theorem laws_FnShapes.bits23 : waitsOk laws_FnShapes.T23.2 laws_FnShapes.B23 = true := by kernel_rfl
set_option maxHeartbeats 8000000 in
set_option maxRecDepth 100000 in
theorem laws_FnShapes.calls (k : Nat) (A0 : Option Addr) (c0 : Nat) (l0 : List Int) (r : Bool) (w : World) (hr0 : Kd.C (Kd.int .u8) w A0 l0.length l0) (hc0 : l0.length ≤ c0) (h : laws_FnShapes.f k l0 = some r) :
  Calls Try.prog 12 #[.slice A0 l0.length c0] w fun e w' => e = .returned (.bool r) ∧ Below w.heap.size w w' := by
 have hfd28_0 : ∀ (x0 : Int) (x1 : Value) (W : World), (Instr.field 28 (.agg #[.int .i64 x0, x1]) 0).run Try.prog W = .ok (.int .i64 x0) W := fun _ _ _ => by kernel_rfl
 have hfd31_1 : ∀ (x0 : Int) (x1 : Int) (W : World), (Instr.field 31 (.agg #[.int .i64 x0, .int .i64 x1]) 1).run Try.prog W = .ok (.int .i64 x1) W := fun _ _ _ => by kernel_rfl
 have hfd31_0 : ∀ (x0 : Int) (x1 : Int) (W : World), (Instr.field 31 (.agg #[.int .i64 x0, .int .i64 x1]) 0).run Try.prog W = .ok (.int .i64 x0) W := fun _ _ _ => by kernel_rfl
 have hu28 := Try.underlying28
 have hu31 := Try.underlying31
 have HR0 := Aside0.mk hr0
 have HC0 := Aside0.mk hc0
 clear hr0 hc0
 have HB := Aside0.mk (Below.refl w.heap.size w)
 have H : ((laws_lwBig.f l0).bind fun t337 => (if t337 = true then (some true) else ((spec_DrawSearchPulses.f k l0).bind fun bt338 => ((impl_SearchPulses.f k bt338.1 bt338.2).bind fun bt342 => ((spec_SearchPulses.f k bt338.1 bt338.2).bind fun bt347 => (if bt342.1 = bt347.1 then (if bt342.1 = 0 then ((impl_NormOf.f k bt338.1).bind fun bt351 => ((laws_lwAt.f l0 2 400).bind fun t353 => ((laws_lwAt.f l0 3 2).bind fun t354 => (if t354 = 0 then (laws_FnShapes.j0 k bt338.1 bt338.2 bt351.2 t353 (wrap64 (bt351.2 + t353)) (decide (t353 ≤ bt351.2)) bt342.1 bt342.2) else (laws_FnShapes.j0 k bt338.1 bt338.2 bt351.2 t353 (wrap64 (bt351.2 + t353)) false bt342.1 bt342.2))))) else (some true)) else (none))))))) = some r := h
 clear h
 replace H := bnd H
 obtain ⟨t337, A2, H⟩ := H
 by_cases c3 : t337 = true
 ·subst c3
  replace H : (some true) = some r := by rw [if_pos rfl] at H; exact H
  obtain rfl := Option.some.inj H
  go_enter Try.func12, Try.ntmps12
  go_wp2_with (first | ((with_reducible refine gate_callee (f := 15) rfl ?_); refine gl_ 14 Try.func15 #[.slice A0 l0.length c0] ?_; (with_reducible refine (laws_lwBig.calls _ _ l0 true _ ?side1 ?side2 A2.out).mono ?_); (case side1 => repeat (first | exact HR0.out | (with_reducible refine Kd.C_alloc ?_ _) | (with_reducible refine Kd.C_drewN ?_ _) | (with_reducible refine Kd.C_drew ?_))); (case side2 => exact HC0.out); rintro e w' ⟨rfl, ⟨nd, rfl⟩⟩; refine ⟨_, rfl, ?_⟩))
  go_ret
  exact ⟨enq, bnw⟩
 ·replace c3 := Bool.eq_false_iff.mpr c3
  subst c3
  replace H : ((spec_DrawSearchPulses.f k l0).bind fun bt338 => ((impl_SearchPulses.f k bt338.1 bt338.2).bind fun bt342 => ((spec_SearchPulses.f k bt338.1 bt338.2).bind fun bt347 => (if bt342.1 = bt347.1 then (if bt342.1 = 0 then ((impl_NormOf.f k bt338.1).bind fun bt351 => ((laws_lwAt.f l0 2 400).bind fun t353 => ((laws_lwAt.f l0 3 2).bind fun t354 => (if t354 = 0 then (laws_FnShapes.j0 k bt338.1 bt338.2 bt351.2 t353 (wrap64 (bt351.2 + t353)) (decide (t353 ≤ bt351.2)) bt342.1 bt342.2) else (laws_FnShapes.j0 k bt338.1 bt338.2 bt351.2 t353 (wrap64 (bt351.2 + t353)) false bt342.1 bt342.2))))) else (some true)) else (none))))) = some r := by rw [if_neg (show ¬ (false = true) by decide)] at H; exact H
  replace H := bnd H
  obtain ⟨⟨t338, t339⟩, A4, H⟩ := H
  replace H : ((impl_SearchPulses.f k t338 t339).bind fun bt342 => ((spec_SearchPulses.f k t338 t339).bind fun bt347 => (if bt342.1 = bt347.1 then (if bt342.1 = 0 then ((impl_NormOf.f k t338).bind fun bt351 => ((laws_lwAt.f l0 2 400).bind fun t353 => ((laws_lwAt.f l0 3 2).bind fun t354 => (if t354 = 0 then (laws_FnShapes.j0 k t338 t339 bt351.2 t353 (wrap64 (bt351.2 + t353)) (decide (t353 ≤ bt351.2)) bt342.1 bt342.2) else (laws_FnShapes.j0 k t338 t339 bt351.2 t353 (wrap64 (bt351.2 + t353)) false bt342.1 bt342.2))))) else (some true)) else (none)))) = some r := H
  replace H := bnd H
  obtain ⟨⟨t342, t343⟩, A5, H⟩ := H
  replace H : ((spec_SearchPulses.f k t338 t339).bind fun bt347 => (if t342 = bt347.1 then (if t342 = 0 then ((impl_NormOf.f k t338).bind fun bt351 => ((laws_lwAt.f l0 2 400).bind fun t353 => ((laws_lwAt.f l0 3 2).bind fun t354 => (if t354 = 0 then (laws_FnShapes.j0 k t338 t339 bt351.2 t353 (wrap64 (bt351.2 + t353)) (decide (t353 ≤ bt351.2)) t342 t343) else (laws_FnShapes.j0 k t338 t339 bt351.2 t353 (wrap64 (bt351.2 + t353)) false t342 t343))))) else (some true)) else (none))) = some r := H
  replace H := bnd H
  obtain ⟨⟨t347, t348⟩, A6, H⟩ := H
  replace H : (if t342 = t347 then (if t342 = 0 then ((impl_NormOf.f k t338).bind fun bt351 => ((laws_lwAt.f l0 2 400).bind fun t353 => ((laws_lwAt.f l0 3 2).bind fun t354 => (if t354 = 0 then (laws_FnShapes.j0 k t338 t339 bt351.2 t353 (wrap64 (bt351.2 + t353)) (decide (t353 ≤ bt351.2)) t342 t343) else (laws_FnShapes.j0 k t338 t339 bt351.2 t353 (wrap64 (bt351.2 + t353)) false t342 t343))))) else (some true)) else (none)) = some r := H
  by_cases c7 : t342 = t347
  ·rw [if_pos c7] at H
   have c7b0 : (t342 == t347) = true := beq_iff_eq.mpr c7
   have c7b1 : (t342 != t347) = false := bne_eq_false_iff_eq.mpr c7
   clear c7
   by_cases c8 : t342 = 0
   ·rw [if_pos c8] at H
    have c8b0 : (t342 == 0) = true := beq_iff_eq.mpr c8
    have c8b1 : (t342 != 0) = false := bne_eq_false_iff_eq.mpr c8
    clear c8
    replace H := bnd H
    obtain ⟨⟨t351, t352⟩, A9, H⟩ := H
    replace H : ((laws_lwAt.f l0 2 400).bind fun t353 => ((laws_lwAt.f l0 3 2).bind fun t354 => (if t354 = 0 then (laws_FnShapes.j0 k t338 t339 t352 t353 (wrap64 (t352 + t353)) (decide (t353 ≤ t352)) t342 t343) else (laws_FnShapes.j0 k t338 t339 t352 t353 (wrap64 (t352 + t353)) false t342 t343)))) = some r := H
    replace H := bnd H
    obtain ⟨t353, A10, H⟩ := H
    have HC11 := Aside0.mk H
    clear H
    go_enter Try.func12, Try.ntmps12
    try go_wp2_with (first | ((with_reducible refine gate_callee (f := 15) rfl ?_); refine gl_ 14 Try.func15 #[.slice A0 l0.length c0] ?_; (with_reducible refine (laws_lwBig.calls _ _ l0 false _ ?side1 ?side2 A2.out).mono ?_); (case side1 => repeat (first | exact HR0.out | (with_reducible refine Kd.C_alloc ?_ _) | (with_reducible refine Kd.C_drewN ?_ _) | (with_reducible refine Kd.C_drew ?_))); (case side2 => exact HC0.out); rintro e w' ⟨rfl, ⟨nd, rfl⟩⟩; refine ⟨_, rfl, ?_⟩) | ((with_reducible refine gate_callee (f := 67) rfl ?_); refine gl_ 17 Try.func67 #[.slice A0 l0.length c0] ?_; (with_reducible refine (spec_DrawSearchPulses.calls k _ _ l0 t338 t339 _ ?side1 ?side2 A4.out).mono ?_); (case side1 => repeat (first | exact HR0.out | (with_reducible refine Kd.C_alloc ?_ _) | (with_reducible refine Kd.C_drewN ?_ _) | (with_reducible refine Kd.C_drew ?_))); (case side2 => exact HC0.out); rintro e w12 ⟨v340, rfl, ho0, hb⟩; refine ⟨_, rfl, ?_⟩; have HO341 := rlw ho0; replace HB := hbs hb; (try clear hb); (try clear ho0); obtain ⟨Ao13, co13, eo13⟩ := Kd.R_slice HO341.out; subst eo13) | ((with_reducible refine gate_callee (f := 49) rfl ?_); refine gl_ 22 Try.func49 #[.slice Ao13 t338.length co13, .int .i64 t339] ?_; (with_reducible refine (impl_SearchPulses.calls k _ _ t338 t339 t342 t343 _ ?_ ?_ A5.out).mono ?_); exact crd HO341; exact (Kd.R_reads' HO341.out).2.1; rintro e w14 ⟨v344, rfl, ho0, hb⟩; refine ⟨_, rfl, ?_⟩; have HO345 := am (Kd.R_lower (Kd.R_new' ho0 (rlt HO341)) bsz); replace HO341 := rel HO341 ho0 hb; replace HB := hbs hb; (try clear hb); (try clear ho0)) | ((with_reducible refine gate_dst (N := 5) rfl ?_); refine bev 5 28 #[.int .i64 0, .slice none 0 0] ?_; intro gb346 hg w15 hbox hb; replace HO341 := rbl HO341 hb; replace HO345 := rbl HO345 hb; have BK346 := am hbox; have GW346 := gwe hg; have GE346 := gwe hg; replace HB := hbs hb; clear hb hbox hg; obtain ⟨hcz16_0, hcz16_1, hfz16_0, hfz16_1⟩ := cf2 (W := w15) BK346.out; obtain ⟨Ao17, co17, eo17⟩ := Kd.R_slice HO345.out; subst eo17))
    have n0_ : Aside0 (Kd.R (Kd.int .i64) 2 ((w15.setCell ⟨gb346, 0, none⟩ (.int .i64 t342)).setCell ⟨gb346, 1, none⟩ (.slice Ao17 t343.length co17)) w.heap.size (fun k_ => some k_ ≠ (.slice Ao17 t343.length co17 : Value).ownBlock) (.slice Ao13 t338.length co13) t338) := ⟨by (with_reducible repeat (first | apply Kd.R_alloc | apply Kd.R_drewN | apply Kd.R_drew)); exact Kd.R_mono (Kd.R_far (p := ⟨gb346, 1, none⟩) (Kd.R_far (p := ⟨gb346, 0, none⟩) (Kd.R_types HO341.out BK346.out (by decide)) (fun _ hk => hk.2) (.int .i64 t342)) (fun _ hk => hk.2) (.slice Ao17 t343.length co17)) (fun _ hk => hk.1.2)⟩
    have n1_ : Aside0 (Kd.R (Kd.int .i64) 2 ((w15.setCell ⟨gb346, 0, none⟩ (.int .i64 t342)).setCell ⟨gb346, 1, none⟩ (.slice Ao17 t343.length co17)) w.heap.size (fun k_ => some k_ ≠ (.slice Ao13 t338.length co13 : Value).ownBlock) (.slice Ao17 t343.length co17) t343) := ⟨by (with_reducible repeat (first | apply Kd.R_alloc | apply Kd.R_drewN | apply Kd.R_drew)); exact Kd.R_mono (Kd.R_far (p := ⟨gb346, 1, none⟩) (Kd.R_far (p := ⟨gb346, 0, none⟩) (Kd.R_types HO345.out BK346.out (by decide)) (fun _ hk => hk.2) (.int .i64 t342)) (fun _ hk => hk.2) (.slice Ao17 t343.length co17)) (fun _ hk => hk.1.2)⟩
    have n2_ : Aside0 (((w15.setCell ⟨gb346, 0, none⟩ (.int .i64 t342)).setCell ⟨gb346, 1, none⟩ (.slice Ao17 t343.length co17)).heap[gb346]? = some (.cells #[.int .i64 t342, .slice Ao17 t343.length co17] 28 (0, 0))) := ⟨by (with_reducible repeat (first | refine blk_drewN ?_ _ | refine blk_drew ?_ | refine blk_alloc ?_ _)); refine blk_put (cs := #[.int .i64 t342, .slice none 0 0]) ?_ 1 _ rfl; (with_reducible repeat (first | refine blk_drewN ?_ _ | refine blk_drew ?_ | refine blk_alloc ?_ _)); refine blk_put (cs := #[.int .i64 0, .slice none 0 0]) ?_ 0 _ rfl; exact bpl BK346.out⟩
    have n3_ : Aside0 (Below w.heap.size w ((w15.setCell ⟨gb346, 0, none⟩ (.int .i64 t342)).setCell ⟨gb346, 1, none⟩ (.slice Ao17 t343.length co17))) := ⟨bnx⟩
    (try clear HO341)
    (try clear HO345)
    (try clear BK346)
    (try clear HB)
    generalize ((w15.setCell ⟨gb346, 0, none⟩ (.int .i64 t342)).setCell ⟨gb346, 1, none⟩ (.slice Ao17 t343.length co17)) = w18 at n0_ n1_ n2_ n3_ ⊢
    have HO341 := n0_
    have HO345 := n1_
    have BK346 := n2_
    have HB := n3_
    clear n0_ n1_ n2_ n3_
    replace HO341 := am (Kd.R_drew HO341.out)
    replace HO345 := am (Kd.R_drew HO345.out)
    replace BK346 := am (blk_drew BK346.out)
    replace HB := am (below_drew1 HB.out)
    refine start_ (n := 7) (S := fun w' => w'.cell? ⟨gb346, 0, none⟩ = some (.int .i64 t342) ∧ w'.cell? ⟨gb346, 1, none⟩ = some (.slice Ao17 t343.length co17)) (ds := []) #[false, false, false, false, false, false, false] (by kernel_rfl) rfl rfl ⟨(blk_cell BK346.out 0).trans rfl, (blk_cell BK346.out 1).trans rfl⟩ (fun hHeld => ?_)
    generalize w18.drew = w19 at HO341 HO345 BK346 HB hHeld ⊢
    refine pure_ (i := 0) (N := some 23) (v := ?_) (a' := ?_) #[true, false, false, false, false, false, false] rfl rfl (by kernel_rfl) (fun _ _ _ h => h) (Or.inl ⟨by rfl, ?_⟩) ?_ ?_
    rotate_left
    ·intro w'
     go_simp
     with_reducible rfl
    rotate_left
    ·simp only [Act.put, List.setIfInBounds_toArray, List.set_cons_zero, List.set_cons_succ, i64_w, i32_w]
     rfl
    refine pure_ (i := 2) (N := some 25) (v := ?_) (a' := ?_) #[true, false, true, false, false, false, false] rfl rfl (by kernel_rfl) (fun _ _ _ h => h) (Or.inl ⟨by rfl, ?_⟩) ?_ ?_
    rotate_left
    ·intro w'
     go_simp
     with_reducible rfl
    rotate_left
    ·simp only [Act.put, List.setIfInBounds_toArray, List.set_cons_zero, List.set_cons_succ, i64_w, i32_w]
     rfl
    refine pure_ (i := 3) (N := some 26) (v := ?_) (a' := ?_) #[true, false, true, true, false, false, false] rfl rfl (by kernel_rfl) (fun _ _ _ h => h) (Or.inl ⟨by rfl, ?_⟩) ?_ ?_
    rotate_left
    ·intro w'
     go_simp
     with_reducible rfl
    rotate_left
    ·simp only [Act.put, List.setIfInBounds_toArray, List.set_cons_zero, List.set_cons_succ, i64_w, i32_w]
     rfl
    refine take_ (i := 1) (N := some 24) (v := ?_) (a' := ?_) #[true, true, true, true, false, false, false] rfl rfl (by kernel_rfl) (fun _ _ _ h => h) (Or.inl ⟨by rfl, ?_⟩) hHeld ?_ ?_
    rotate_left
    ·rintro w' ⟨s0, s1⟩
     go_simp
     with_reducible rfl
    rotate_left
    ·simp only [Act.put, List.setIfInBounds_toArray, List.set_cons_zero, List.set_cons_succ, i64_w, i32_w]
     rfl
    refine one_ (i := 4) (N := some 27) #[true, true, true, true, true, false, false] rfl rfl (by kernel_rfl) (by decide) (fun K hK => ?_)
    refine gs_ Try.func48 #[.slice Ao13 t338.length co13, .int .i64 t339] ?_
    with_reducible refine (spec_SearchPulses.calls k _ _ t338 t339 t347 t348 _ ?_ ?_ A6.out).mono ?_
    exact crd HO341
    exact (Kd.R_reads' HO341.out).2.1
    rintro e w20 ⟨v349, rfl, ho0, hb⟩
    refine ⟨_, rfl, ?_⟩
    have HO350 := am (Kd.R_lower (Kd.R_new' (Kd.R_new' ho0 (rlt HO341)) (rlt HO345)) bsz)
    replace HO341 := rel HO341 ho0 hb
    replace HO345 := rel HO345 ho0 hb
    replace BK346 := bkb BK346 hb
    replace HB := hbs hb
    (try clear hb)
    (try clear ho0)
    refine hK.out _ _ ⟨(blk_cell BK346.out 0).trans rfl, (blk_cell BK346.out 1).trans rfl⟩ (fun hHeld => ?_)
    clear hK K
    refine nm_ 27 ?_
    refine pure_ (i := 5) (N := some 28) (v := ?_) (a' := ?_) #[true, true, true, true, true, true, false] rfl rfl (by kernel_rfl) (fun _ _ _ h => h) (Or.inl ⟨by rfl, ?_⟩) ?_ ?_
    rotate_left
    ·intro w'
     go_simp
     with_reducible rfl
    rotate_left
    ·simp only [Act.put, List.setIfInBounds_toArray, List.set_cons_zero, List.set_cons_succ, i64_w, i32_w]
     rfl
    refine pure_ (i := 6) (N := some 29) (v := ?_) (a' := ?_) #[true, true, true, true, true, true, true] rfl rfl (by kernel_rfl) (fun _ _ _ h => h) (Or.inl ⟨by rfl, ?_⟩) ?_ ?_
    rotate_left
    ·intro w'
     go_simp
     with_reducible rfl
    rotate_left
    ·simp only [Act.put, List.setIfInBounds_toArray, List.set_cons_zero, List.set_cons_succ, i64_w, i32_w]
     rfl
    refine done_ (by kernel_rfl) ?_
    obtain ⟨hcz21_0, hcz21_1, hfz21_0, hfz21_1⟩ := cf2 (W := w20) BK346.out
    go_upto_region 12 with (first | ((with_reducible refine gate_callee (f := 66) rfl ?_); refine gl_ 34 Try.func66 #[.slice Ao13 t338.length co13] ?_; (with_reducible refine (impl_NormOf.calls k _ _ t338 t351 t352 _ ?_ ?_ A9.out).mono ?_); exact crd HO341; exact (Kd.R_reads' HO341.out).2.1; rintro e w22 ⟨rfl, hb⟩; refine ⟨_, rfl, ?_⟩; replace HO341 := rbl HO341 hb; replace HO345 := rbl HO345 hb; replace HO350 := rbl HO350 hb; replace BK346 := bkb BK346 hb; replace HB := hbs hb; (try clear hb)) | ((with_reducible refine gate_callee (f := 68) rfl ?_); refine gl_ 37 Try.func68 #[.slice A0 l0.length c0, .int .i64 2, .int .i64 400] ?_; (with_reducible refine (laws_lwAt.calls _ _ l0 2 400 t353 _ ?_ ?_ A10.out).mono ?_); exact cpl HR0.out; exact HC0.out; rintro e w' ⟨rfl, ⟨nd, rfl⟩⟩; refine ⟨_, rfl, ?_⟩))
    (try simp only [Act.put, List.setIfInBounds_toArray, List.set_cons_zero, List.set_cons_succ])
    go_cut [48] (fun v48 wc => ∃ (kq : Nat) (x48_10 : Bool), v48 = .bool x48_10 ∧ Aside0 (laws_FnShapes.j0 kq t338 t339 t352 t353 (wrap64 (t352 + t353)) x48_10 t342 t343 = some r) ∧ Aside0 (kq ≤ k) ∧ Aside0 (Kd.R (Kd.int .i64) 2 wc w.heap.size (fun k_ => some k_ ≠ ((.slice Ao17 t343.length co17) : Value).ownBlock) (.slice Ao13 t338.length co13) t338) ∧ Aside0 (Kd.R (Kd.int .i64) 2 wc w.heap.size (fun k_ => some k_ ≠ ((.slice Ao13 t338.length co13) : Value).ownBlock) (.slice Ao17 t343.length co17) t343) ∧ Aside0 (wc.heap[gb346]? = some (.cells #[.int .i64 t342, (.slice Ao17 t343.length co17)] 28 (0, 0))) ∧ Aside0 (Below w.heap.size w wc))
    case first =>
     have H := HC11.out
     clear HC11
     replace H := bnd H
     obtain ⟨t354, A23, H⟩ := H
     by_cases c24 : t354 = 0
     ·rw [if_pos c24] at H
      have c24b0 : (t354 == 0) = true := beq_iff_eq.mpr c24
      have c24b1 : (t354 != 0) = false := bne_eq_false_iff_eq.mpr c24
      clear c24
      (first | rw [c24b0] | (simp only [i64_w, i32_w]; rw [c24b0]) | skip)
      have H' := Aside0.mk H
      clear H
      go_wp2_with (first | ((with_reducible refine gate_callee (f := 68) rfl ?_); refine gl_ 42 Try.func68 #[.slice A0 l0.length c0, .int .i64 3, .int .i64 2] ?_; (with_reducible refine (laws_lwAt.calls _ _ l0 3 2 t354 _ ?_ ?_ A23.out).mono ?_); exact cpl HR0.out; exact HC0.out; rintro e w' ⟨rfl, ⟨nd, rfl⟩⟩; refine ⟨_, rfl, ?_⟩))
      go_meet
      case rel => exact ⟨_, (decide (t353 ≤ t352)), rq, H', ⟨by first | omega | exact Nat.le_refl _⟩, ⟨by (with_reducible repeat (first | apply Kd.R_alloc | apply Kd.R_drewN | apply Kd.R_drew)); exact Kd.R_mono HO341.out (fun _ hk => hk.1)⟩, ⟨by (with_reducible repeat (first | apply Kd.R_alloc | apply Kd.R_drewN | apply Kd.R_drew)); exact Kd.R_mono HO345.out (fun _ hk => hk.1)⟩, ⟨bpl BK346.out⟩, ⟨bnx⟩⟩
     ·rw [if_neg c24] at H
      have c24b0 : (t354 == 0) = false := beq_eq_false_iff_ne.mpr c24
      have c24b1 : (t354 != 0) = true := bne_iff_ne.mpr c24
      (first | rw [c24b0] | (simp only [i64_w, i32_w]; rw [c24b0]) | skip)
      have H' := Aside0.mk H
      clear H
      go_wp2_with (first | ((with_reducible refine gate_callee (f := 68) rfl ?_); refine gl_ 42 Try.func68 #[.slice A0 l0.length c0, .int .i64 3, .int .i64 2] ?_; (with_reducible refine (laws_lwAt.calls _ _ l0 3 2 t354 _ ?_ ?_ A23.out).mono ?_); exact cpl HR0.out; exact HC0.out; rintro e w' ⟨rfl, ⟨nd, rfl⟩⟩; refine ⟨_, rfl, ?_⟩))
      go_meet
      case rel => exact ⟨_, (false), rq, H', ⟨by first | omega | exact Nat.le_refl _⟩, ⟨by (with_reducible repeat (first | apply Kd.R_alloc | apply Kd.R_drewN | apply Kd.R_drew)); exact Kd.R_mono HO341.out (fun _ hk => hk.1)⟩, ⟨by (with_reducible repeat (first | apply Kd.R_alloc | apply Kd.R_drewN | apply Kd.R_drew)); exact Kd.R_mono HO345.out (fun _ hk => hk.1)⟩, ⟨bpl BK346.out⟩, ⟨bnx⟩⟩
    case rest =>
     clear HC11
     try clear c1
     try clear c2
     try clear p2
     try clear c3
     try clear c4
     try clear c6
     try clear p6
     try clear c7
     try clear c7b0
     try clear c7b1
     try clear c8
     try clear c8b0
     try clear c8b1
     try clear c12
     try clear c15
     try clear c24
     try clear c24b0
     try clear c24b1
     try clear hcz16_0 hcz16_1
     try clear hcz21_0 hcz21_1
     try clear hfz16_0 hfz16_1
     try clear hfz21_0 hfz21_1
     obtain ⟨kq, x48_10, rfl, HA, HJ10, HO_3, HO_347001, BK346, HB⟩ := hcut
     cases kq with
     | zero => exact absurd HA.out (by simp [laws_FnShapes.j0])
     | succ kj10 =>
      have H := HA.out
      clear HA
      simp only [laws_FnShapes.j0] at H
      have HC25 := Aside0.mk H
      clear H
      go_upto_if 48 with (fail)
      go_cut [8] (fun v8 wc => ∃ (kq : Nat) (x8_24 : Int), v8 = .int .i64 x8_24 ∧ Aside0 (laws_FnShapes.j1 kq t338 t339 t352 t353 x8_24 t342 t343 = some r) ∧ Aside0 (kq ≤ kj10) ∧ Aside0 (Kd.R (Kd.int .i64) 2 wc w.heap.size (fun k_ => some k_ ≠ ((.slice Ao17 t343.length co17) : Value).ownBlock) (.slice Ao13 t338.length co13) t338) ∧ Aside0 (Kd.R (Kd.int .i64) 2 wc w.heap.size (fun k_ => some k_ ≠ ((.slice Ao13 t338.length co13) : Value).ownBlock) (.slice Ao17 t343.length co17) t343) ∧ Aside0 (wc.heap[gb346]? = some (.cells #[.int .i64 t342, (.slice Ao17 t343.length co17)] 28 (0, 0))) ∧ Aside0 (Below w.heap.size w wc))
      case first =>
       have H := HC25.out
       clear HC25
       by_cases c26 : x48_10 = true
       ·subst c26
        replace H : (laws_FnShapes.j1 kj10 t338 t339 t352 t353 (wrap64 (t352 - t353)) t342 t343) = some r := by rw [if_pos rfl] at H; exact H
        have H' := Aside0.mk H
        clear H
        go_wp2
        go_meet
        case rel => exact ⟨_, (wrap64 (t352 - t353)), rq, H', ⟨by have := HJ10.out; first | omega | exact Nat.le_refl _⟩, ⟨by (with_reducible repeat (first | apply Kd.R_alloc | apply Kd.R_drewN | apply Kd.R_drew)); exact HO_3.out⟩, ⟨by (with_reducible repeat (first | apply Kd.R_alloc | apply Kd.R_drewN | apply Kd.R_drew)); exact HO_347001.out⟩, ⟨bpl BK346.out⟩, ⟨bnx⟩⟩
       ·replace c26 := Bool.eq_false_iff.mpr c26
        subst c26
        replace H : (laws_FnShapes.j1 kj10 t338 t339 t352 t353 (wrap64 (t352 + t353)) t342 t343) = some r := by rw [if_neg (show ¬ (false = true) by decide)] at H; exact H
        have H' := Aside0.mk H
        clear H
        go_wp2
        go_meet
        case rel => exact ⟨_, ((wrap64 (t352 + t353))), rq, H', ⟨by have := HJ10.out; first | omega | exact Nat.le_refl _⟩, ⟨by (with_reducible repeat (first | apply Kd.R_alloc | apply Kd.R_drewN | apply Kd.R_drew)); exact HO_3.out⟩, ⟨by (with_reducible repeat (first | apply Kd.R_alloc | apply Kd.R_drewN | apply Kd.R_drew)); exact HO_347001.out⟩, ⟨bpl BK346.out⟩, ⟨bnx⟩⟩
      case rest =>
       clear HC25
       try clear c1
       try clear c2
       try clear p2
       try clear c3
       try clear c4
       try clear c6
       try clear p6
       try clear c7
       try clear c7b0
       try clear c7b1
       try clear c8
       try clear c8b0
       try clear c8b1
       try clear c12
       try clear c15
       try clear c24
       try clear c24b0
       try clear c24b1
       try clear c26
       try clear hcz16_0 hcz16_1
       try clear hcz21_0 hcz21_1
       try clear hfz16_0 hfz16_1
       try clear hfz21_0 hfz21_1
       try clear p2
       try clear p6
       obtain ⟨kq, x8_24, rfl, HA, HJ24, HO_3, HO_347001, BK346, HB⟩ := hcut
       cases kq with
       | zero => exact absurd HA.out (by simp [laws_FnShapes.j1])
       | succ kj24 =>
        have H := HA.out
        clear HA
        simp only [laws_FnShapes.j1] at H
        replace H := bnd H
        obtain ⟨⟨t355, t356⟩, A27, H⟩ := H
        replace H : ((impl_ShapeBound.f t352 t339 t353).bind fun bt360 => (if t355 = 0 then (laws_FnShapes.j2 kj24 t338 t339 t352 t353 x8_24 (bt360.1 != 0) t342 t343 t355 t356 bt360.1 bt360.2) else (laws_FnShapes.j2 kj24 t338 t339 t352 t353 x8_24 true t342 t343 t355 t356 bt360.1 bt360.2))) = some r := H
        replace H := bnd H
        obtain ⟨⟨t360, t361⟩, A28, H⟩ := H
        replace H : (if t355 = 0 then (laws_FnShapes.j2 kj24 t338 t339 t352 t353 x8_24 (t360 != 0) t342 t343 t355 t356 t360 t361) else (laws_FnShapes.j2 kj24 t338 t339 t352 t353 x8_24 true t342 t343 t355 t356 t360 t361)) = some r := H
        have HC29 := Aside0.mk H
        clear H
        obtain ⟨hcz30_0, hcz30_1, hfz30_0, hfz30_1⟩ := cf2 (W := wc) BK346.out
        go_upto_region 16 with (first | ((with_reducible refine gate_callee (f := 69) rfl ?_); refine gl_ 56 Try.func69 #[.slice Ao17 t343.length co17, .int .i64 t339, .int .i64 x8_24] ?_; (with_reducible refine (impl_ShapeOf.calls kj24 _ _ t343 t339 x8_24 t355 t356 _ ?_ ?_ A27.out).mono ?_); exact crd HO_347001; exact (Kd.R_reads' HO_347001.out).2.1; rintro e w31 ⟨v357, rfl, ho0, hb⟩; refine ⟨_, rfl, ?_⟩; have HO358 := am (Kd.R_lower (Kd.R_new' (Kd.R_new' ho0 (rlt HO_3)) (rlt HO_347001)) bsz); replace HO_3 := rel HO_3 ho0 hb; replace HO_347001 := rel HO_347001 ho0 hb; replace BK346 := bkb BK346 hb; replace HB := hbs hb; (try clear hb); (try clear ho0)) | ((with_reducible refine gate_dst (N := 9) rfl ?_); refine bev 9 28 #[.int .i64 0, .slice none 0 0] ?_; intro gb359 hg w32 hbox hb; replace HO_3 := rbl HO_3 hb; replace HO_347001 := rbl HO_347001 hb; replace HO358 := rbl HO358 hb; have BK359 := am hbox; have GW359 := gwe hg; have GE359 := gwe hg; replace HB := hbs hb; have NB346_359 := nbl hg BK346; have NB359_346 := nbg hg BK346; replace BK346 := bkb BK346 hb; clear hb hbox hg; have hnb33 := NB359_346.out; have hnc33 := NB346_359.out; obtain ⟨hcz34_0, hcz34_1, hfz34_0, hfz34_1⟩ := cf2 (W := w32) BK359.out; obtain ⟨Ao35, co35, eo35⟩ := Kd.R_slice HO358.out; subst eo35) | ((with_reducible refine gate_callee (f := 70) rfl ?_); refine gl_ 60 Try.func70 #[.int .i64 t352, .int .i64 t339, .int .i64 t353] ?_; (with_reducible refine (impl_ShapeBound.calls t352 t339 t353 t360 t361 _ A28.out).mono ?_); rintro e w36 ⟨rfl, hb⟩; refine ⟨_, rfl, ?_⟩; replace HO_3 := am (Kd.R_below (by (with_reducible repeat (first | apply Kd.R_alloc | apply Kd.R_drewN | apply Kd.R_drew)); exact (Kd.R_mono (Kd.R_far (p := ⟨gb359, 1, none⟩) (Kd.R_far (p := ⟨gb359, 0, none⟩) (Kd.R_types HO_3.out BK359.out (by decide)) (fun _ hk => hk.2) (.int .i64 t355)) (fun _ hk => hk.2) (.slice Ao35 t356.length co35)) (fun _ h_ => h_.1))) hb); replace HO_347001 := am (Kd.R_below (by (with_reducible repeat (first | apply Kd.R_alloc | apply Kd.R_drewN | apply Kd.R_drew)); exact (Kd.R_mono (Kd.R_far (p := ⟨gb359, 1, none⟩) (Kd.R_far (p := ⟨gb359, 0, none⟩) (Kd.R_types HO_347001.out BK359.out (by decide)) (fun _ hk => hk.2) (.int .i64 t355)) (fun _ hk => hk.2) (.slice Ao35 t356.length co35)) (fun _ h_ => h_.1))) hb); replace HO358 := am (Kd.R_below (by (with_reducible repeat (first | apply Kd.R_alloc | apply Kd.R_drewN | apply Kd.R_drew)); exact (Kd.R_mono (Kd.R_far (p := ⟨gb359, 1, none⟩) (Kd.R_far (p := ⟨gb359, 0, none⟩) (Kd.R_types HO358.out BK359.out (by decide)) (fun _ hk => hk.2) (.int .i64 t355)) (fun _ hk => hk.2) (.slice Ao35 t356.length co35)) (fun _ h_ => h_.1))) hb); replace BK346 := am (blk_below (g := gb346) (o := .cells #[.int .i64 t342, .slice Ao17 t343.length co17] 28 (0, 0)) (by (with_reducible repeat (first | refine blk_drewN ?_ _ | refine blk_drew ?_ | refine blk_alloc ?_ _)); refine blk_far ?_ NB346_359.out _; (with_reducible repeat (first | refine blk_drewN ?_ _ | refine blk_drew ?_ | refine blk_alloc ?_ _)); refine blk_far ?_ NB346_359.out _; (with_reducible repeat (first | refine blk_drewN ?_ _ | refine blk_drew ?_ | refine blk_alloc ?_ _)); exact BK346.out) hb); replace BK359 := am (blk_below (g := gb359) (o := .cells #[.int .i64 t355, .slice Ao35 t356.length co35] 28 (0, 0)) (by (with_reducible repeat (first | refine blk_drewN ?_ _ | refine blk_drew ?_ | refine blk_alloc ?_ _)); refine blk_put (cs := #[.int .i64 t355, .slice none 0 0]) ?_ 1 _ rfl; (with_reducible repeat (first | refine blk_drewN ?_ _ | refine blk_drew ?_ | refine blk_alloc ?_ _)); refine blk_put (cs := #[.int .i64 0, .slice none 0 0]) ?_ 0 _ rfl; exact bpl BK359.out) hb); replace HB := hbs hb; (try clear hb)) | ((with_reducible refine gate_dst (N := 10) rfl ?_); refine bev 10 31 #[.int .i64 0, .int .i64 0] ?_; intro gb362 hg w37 hbox hb; replace HO_3 := rbl HO_3 hb; replace HO_347001 := rbl HO_347001 hb; replace HO358 := rbl HO358 hb; have BK362 := am hbox; have GW362 := gwe hg; have GE362 := gwe hg; replace HB := hbs hb; have NB346_362 := nbl hg BK346; have NB362_346 := nbg hg BK346; replace BK346 := bkb BK346 hb; have NB359_362 := nbl hg BK359; have NB362_359 := nbg hg BK359; replace BK359 := bkb BK359 hb; clear hb hbox hg; have hnb38 := NB362_346.out; have hnc38 := NB346_362.out; have hnb39 := NB362_359.out; have hnc39 := NB359_362.out; obtain ⟨hcz40_0, hcz40_1, hfz40_0, hfz40_1⟩ := cf2 (W := w37) BK362.out))
        (try simp only [Act.put, List.setIfInBounds_toArray, List.set_cons_zero, List.set_cons_succ])
        go_cut [68] (fun v68 wc => ∃ (kq : Nat) (x68_28 : Bool), v68 = .bool x68_28 ∧ Aside0 (laws_FnShapes.j2 kq t338 t339 t352 t353 x8_24 x68_28 t342 t343 t355 t356 t360 t361 = some r) ∧ Aside0 (kq ≤ kj24) ∧ Aside0 (Kd.R (Kd.int .i64) 2 wc w.heap.size (fun k_ => some k_ ≠ ((.slice Ao17 t343.length co17) : Value).ownBlock ∧ some k_ ≠ ((.slice Ao35 t356.length co35) : Value).ownBlock) (.slice Ao13 t338.length co13) t338) ∧ Aside0 (Kd.R (Kd.int .i64) 2 wc w.heap.size (fun k_ => some k_ ≠ ((.slice Ao13 t338.length co13) : Value).ownBlock ∧ some k_ ≠ ((.slice Ao35 t356.length co35) : Value).ownBlock) (.slice Ao17 t343.length co17) t343) ∧ Aside0 (Kd.R (Kd.int .i64) 2 wc w.heap.size (fun k_ => some k_ ≠ ((.slice Ao13 t338.length co13) : Value).ownBlock ∧ some k_ ≠ ((.slice Ao17 t343.length co17) : Value).ownBlock) (.slice Ao35 t356.length co35) t356) ∧ Aside0 (wc.heap[gb346]? = some (.cells #[.int .i64 t342, (.slice Ao17 t343.length co17)] 28 (0, 0))) ∧ Aside0 (wc.heap[gb359]? = some (.cells #[.int .i64 t355, (.slice Ao35 t356.length co35)] 28 (0, 0))) ∧ Aside0 (wc.heap[gb362]? = some (.cells #[.int .i64 t360, .int .i64 t361] 31 (0, 0))) ∧ Aside0 (Below w.heap.size w wc))
        case first =>
         have H := HC29.out
         clear HC29
         by_cases c41 : t355 = 0
         ·rw [if_pos c41] at H
          have c41b0 : (t355 == 0) = true := beq_iff_eq.mpr c41
          have c41b1 : (t355 != 0) = false := bne_eq_false_iff_eq.mpr c41
          clear c41
          (first | rw [c41b0] | (simp only [i64_w, i32_w]; rw [c41b0]) | skip)
          have H' := Aside0.mk H
          clear H
          have hnb42 := NB359_346.out
          have hnc42 := NB346_359.out
          have hnb43 := NB359_362.out
          have hnc43 := NB362_359.out
          obtain ⟨hcz44_0, hcz44_1, hfz44_0, hfz44_1⟩ := cf2 (W := w37) BK359.out
          have hnb45 := NB362_346.out
          have hnc45 := NB346_362.out
          obtain ⟨hcz46_0, hcz46_1, hfz46_0, hfz46_1⟩ := cf2 (W := w37) BK362.out
          go_wp2
          go_meet
          case rel => exact ⟨_, ((t360 != 0)), rq, H', ⟨by have := HJ10.out; have := HJ24.out; first | omega | exact Nat.le_refl _⟩, ⟨by (with_reducible repeat (first | apply Kd.R_alloc | apply Kd.R_drewN | apply Kd.R_drew)); exact Kd.R_mono (Kd.R_far (p := ⟨gb362, 1, none⟩) (Kd.R_far (p := ⟨gb362, 0, none⟩) (Kd.R_types HO_3.out BK362.out (by decide)) (fun _ hk => hk.2) (.int .i64 t360)) (fun _ hk => hk.2) (.int .i64 t361)) (fun _ hk => ⟨hk.1.1, hk.1.2⟩)⟩, ⟨by (with_reducible repeat (first | apply Kd.R_alloc | apply Kd.R_drewN | apply Kd.R_drew)); exact Kd.R_mono (Kd.R_far (p := ⟨gb362, 1, none⟩) (Kd.R_far (p := ⟨gb362, 0, none⟩) (Kd.R_types HO_347001.out BK362.out (by decide)) (fun _ hk => hk.2) (.int .i64 t360)) (fun _ hk => hk.2) (.int .i64 t361)) (fun _ hk => ⟨hk.1.1, hk.1.2⟩)⟩, ⟨by (with_reducible repeat (first | apply Kd.R_alloc | apply Kd.R_drewN | apply Kd.R_drew)); exact Kd.R_mono (Kd.R_far (p := ⟨gb362, 1, none⟩) (Kd.R_far (p := ⟨gb362, 0, none⟩) (Kd.R_types HO358.out BK362.out (by decide)) (fun _ hk => hk.2) (.int .i64 t360)) (fun _ hk => hk.2) (.int .i64 t361)) (fun _ hk => ⟨hk.1.1.2, hk.1.2⟩)⟩, ⟨by (with_reducible repeat (first | refine blk_drewN ?_ _ | refine blk_drew ?_ | refine blk_alloc ?_ _)); refine blk_far ?_ NB346_362.out _; (with_reducible repeat (first | refine blk_drewN ?_ _ | refine blk_drew ?_ | refine blk_alloc ?_ _)); refine blk_far ?_ NB346_362.out _; (with_reducible repeat (first | refine blk_drewN ?_ _ | refine blk_drew ?_ | refine blk_alloc ?_ _)); exact BK346.out⟩, ⟨by (with_reducible repeat (first | refine blk_drewN ?_ _ | refine blk_drew ?_ | refine blk_alloc ?_ _)); refine blk_far ?_ NB359_362.out _; (with_reducible repeat (first | refine blk_drewN ?_ _ | refine blk_drew ?_ | refine blk_alloc ?_ _)); refine blk_far ?_ NB359_362.out _; (with_reducible repeat (first | refine blk_drewN ?_ _ | refine blk_drew ?_ | refine blk_alloc ?_ _)); exact BK359.out⟩, ⟨by (with_reducible repeat (first | refine blk_drewN ?_ _ | refine blk_drew ?_ | refine blk_alloc ?_ _)); refine blk_put (cs := #[.int .i64 t360, .int .i64 0]) ?_ 1 _ rfl; (with_reducible repeat (first | refine blk_drewN ?_ _ | refine blk_drew ?_ | refine blk_alloc ?_ _)); refine blk_put (cs := #[.int .i64 0, .int .i64 0]) ?_ 0 _ rfl; exact bpl BK362.out⟩, ⟨bnx⟩⟩
         ·rw [if_neg c41] at H
          have c41b0 : (t355 == 0) = false := beq_eq_false_iff_ne.mpr c41
          have c41b1 : (t355 != 0) = true := bne_iff_ne.mpr c41
          (first | rw [c41b0] | (simp only [i64_w, i32_w]; rw [c41b0]) | skip)
          have H' := Aside0.mk H
          clear H
          have hnb47 := NB359_346.out
          have hnc47 := NB346_359.out
          have hnb48 := NB359_362.out
          have hnc48 := NB362_359.out
          obtain ⟨hcz49_0, hcz49_1, hfz49_0, hfz49_1⟩ := cf2 (W := w37) BK359.out
          go_wp2
          go_meet
          case rel => exact ⟨_, (true), rq, H', ⟨by have := HJ10.out; have := HJ24.out; first | omega | exact Nat.le_refl _⟩, ⟨by (with_reducible repeat (first | apply Kd.R_alloc | apply Kd.R_drewN | apply Kd.R_drew)); exact Kd.R_mono (Kd.R_far (p := ⟨gb362, 1, none⟩) (Kd.R_far (p := ⟨gb362, 0, none⟩) (Kd.R_types HO_3.out BK362.out (by decide)) (fun _ hk => hk.2) (.int .i64 t360)) (fun _ hk => hk.2) (.int .i64 t361)) (fun _ hk => ⟨hk.1.1, hk.1.2⟩)⟩, ⟨by (with_reducible repeat (first | apply Kd.R_alloc | apply Kd.R_drewN | apply Kd.R_drew)); exact Kd.R_mono (Kd.R_far (p := ⟨gb362, 1, none⟩) (Kd.R_far (p := ⟨gb362, 0, none⟩) (Kd.R_types HO_347001.out BK362.out (by decide)) (fun _ hk => hk.2) (.int .i64 t360)) (fun _ hk => hk.2) (.int .i64 t361)) (fun _ hk => ⟨hk.1.1, hk.1.2⟩)⟩, ⟨by (with_reducible repeat (first | apply Kd.R_alloc | apply Kd.R_drewN | apply Kd.R_drew)); exact Kd.R_mono (Kd.R_far (p := ⟨gb362, 1, none⟩) (Kd.R_far (p := ⟨gb362, 0, none⟩) (Kd.R_types HO358.out BK362.out (by decide)) (fun _ hk => hk.2) (.int .i64 t360)) (fun _ hk => hk.2) (.int .i64 t361)) (fun _ hk => ⟨hk.1.1.2, hk.1.2⟩)⟩, ⟨by (with_reducible repeat (first | refine blk_drewN ?_ _ | refine blk_drew ?_ | refine blk_alloc ?_ _)); refine blk_far ?_ NB346_362.out _; (with_reducible repeat (first | refine blk_drewN ?_ _ | refine blk_drew ?_ | refine blk_alloc ?_ _)); refine blk_far ?_ NB346_362.out _; (with_reducible repeat (first | refine blk_drewN ?_ _ | refine blk_drew ?_ | refine blk_alloc ?_ _)); exact BK346.out⟩, ⟨by (with_reducible repeat (first | refine blk_drewN ?_ _ | refine blk_drew ?_ | refine blk_alloc ?_ _)); refine blk_far ?_ NB359_362.out _; (with_reducible repeat (first | refine blk_drewN ?_ _ | refine blk_drew ?_ | refine blk_alloc ?_ _)); refine blk_far ?_ NB359_362.out _; (with_reducible repeat (first | refine blk_drewN ?_ _ | refine blk_drew ?_ | refine blk_alloc ?_ _)); exact BK359.out⟩, ⟨by (with_reducible repeat (first | refine blk_drewN ?_ _ | refine blk_drew ?_ | refine blk_alloc ?_ _)); refine blk_put (cs := #[.int .i64 t360, .int .i64 0]) ?_ 1 _ rfl; (with_reducible repeat (first | refine blk_drewN ?_ _ | refine blk_drew ?_ | refine blk_alloc ?_ _)); refine blk_put (cs := #[.int .i64 0, .int .i64 0]) ?_ 0 _ rfl; exact bpl BK362.out⟩, ⟨bnx⟩⟩
        case rest =>
         clear HC29
         try clear c1
         try clear c2
         try clear p2
         try clear c3
         try clear c4
         try clear c6
         try clear p6
         try clear c7
         try clear c7b0
         try clear c7b1
         try clear c8
         try clear c8b0
         try clear c8b1
         try clear c12
         try clear c15
         try clear c24
         try clear c24b0
         try clear c24b1
         try clear c26
         try clear c33
         try clear c38
         try clear c39
         try clear c41
         try clear c41b0
         try clear c41b1
         try clear c42
         try clear c43
         try clear c45
         try clear c47
         try clear c48
         try clear c49
         try clear hcz16_0 hcz16_1
         try clear hcz21_0 hcz21_1
         try clear hcz30_0 hcz30_1
         try clear hcz34_0 hcz34_1
         try clear hcz40_0 hcz40_1
         try clear hcz44_0 hcz44_1
         try clear hcz46_0 hcz46_1
         try clear hcz49_0 hcz49_1
         try clear hfz16_0 hfz16_1
         try clear hfz21_0 hfz21_1
         try clear hfz30_0 hfz30_1
         try clear hfz34_0 hfz34_1
         try clear hfz40_0 hfz40_1
         try clear hfz44_0 hfz44_1
         try clear hfz46_0 hfz46_1
         try clear hfz49_0 hfz49_1
         try clear p2
         try clear p6
         obtain ⟨kq, x68_28, rfl, HA, HJ28, HO_3, HO_347001, HO_360001, BK346, BK359, BK362, HB⟩ := hcut
         cases kq with
         | zero => exact absurd HA.out (by simp [laws_FnShapes.j2])
         | succ kj28 =>
          have H := HA.out
          clear HA
          simp only [laws_FnShapes.j2] at H
          by_cases c50 : x68_28 = true
          ·subst c50
           replace H : ((spec_ShapeOf.f kj28 t343 t339 x8_24).bind fun bt363 => (if t355 = bt363.1 then ((spec_ShapeBound.f t352 t339 t353).bind fun bt367 => (some (t360 == bt367.1))) else (none))) = some r := by rw [if_pos rfl] at H; exact H
           replace H := bnd H
           obtain ⟨⟨t363, t364⟩, A51, H⟩ := H
           replace H : (if t355 = t363 then ((spec_ShapeBound.f t352 t339 t353).bind fun bt367 => (some (t360 == bt367.1))) else (none)) = some r := H
           by_cases c52 : t355 = t363
           ·rw [if_pos c52] at H
            have c52b0 : (t355 == t363) = true := beq_iff_eq.mpr c52
            have c52b1 : (t355 != t363) = false := bne_eq_false_iff_eq.mpr c52
            clear c52
            replace H := bnd H
            obtain ⟨⟨t367, t368⟩, A53, H⟩ := H
            replace H : (some (t360 == t367)) = some r := H
            obtain rfl := Option.some.inj H
            try go_wp2
            replace HO_3 := am (Kd.R_drew HO_3.out)
            replace HO_347001 := am (Kd.R_drew HO_347001.out)
            replace HO_360001 := am (Kd.R_drew HO_360001.out)
            replace BK346 := am (blk_drew BK346.out)
            replace BK359 := am (blk_drew BK359.out)
            replace BK362 := am (blk_drew BK362.out)
            replace HB := am (below_drew1 HB.out)
            refine start_ (n := 20) (S := fun w' => w'.cell? ⟨gb359, 0, none⟩ = some (.int .i64 t355) ∧ w'.cell? ⟨gb359, 1, none⟩ = some (.slice Ao35 t356.length co35) ∧ w'.cell? ⟨gb346, 0, none⟩ = some (.int .i64 t342) ∧ w'.cell? ⟨gb346, 1, none⟩ = some (.slice Ao17 t343.length co17) ∧ w'.cell? ⟨gb362, 0, none⟩ = some (.int .i64 t360) ∧ w'.cell? ⟨gb362, 1, none⟩ = some (.int .i64 t361)) (ds := []) #[false, false, false, false, false, false, false, false, false, false, false, false, false, false, false, false, false, false, false, false] (by kernel_rfl) rfl rfl ⟨(blk_cell BK359.out 0).trans rfl, (blk_cell BK359.out 1).trans rfl, (blk_cell BK346.out 0).trans rfl, (blk_cell BK346.out 1).trans rfl, (blk_cell BK362.out 0).trans rfl, (blk_cell BK362.out 1).trans rfl⟩ (fun hHeld => ?_); refine with_tabW laws_FnShapes.tab17 laws_FnShapes.bits17 (fun HT_ HW_ => ?_)
            generalize wc.drew = w54 at HO_3 HO_347001 HO_360001 BK346 BK359 BK362 HB hHeld ⊢
            refine pu_ 0 69 HT_ ?_
            refine pu_ 2 71 HT_ ?_
            refine pu_ 4 73 HT_ ?_
            refine pu_ 5 74 HT_ ?_
            refine tk_ 1 70 HT_ HW_ hHeld ?_
            refine tk_ 3 72 HT_ HW_ hHeld ?_
            refine on_ 6 HT_ (fun K hK => ?_)
            refine gs_ Try.func71 #[.slice Ao17 t343.length co17, .int .i64 t339, .int .i64 x8_24] ?_
            with_reducible refine (spec_ShapeOf.calls kj28 _ _ t343 t339 x8_24 t363 t364 _ ?_ ?_ A51.out).mono ?_
            exact crd HO_347001
            exact (Kd.R_reads' HO_347001.out).2.1
            rintro e w55 ⟨v365, rfl, ho0, hb⟩
            refine ⟨_, rfl, ?_⟩
            have HO366 := am (Kd.R_lower (Kd.R_new' (Kd.R_new' (Kd.R_new' ho0 (rlt HO_3)) (rlt HO_347001)) (rlt HO_360001)) bsz)
            replace HO_3 := rel HO_3 ho0 hb
            replace HO_347001 := rel HO_347001 ho0 hb
            replace HO_360001 := rel HO_360001 ho0 hb
            replace BK346 := bkb BK346 hb
            replace BK359 := bkb BK359 hb
            replace BK362 := bkb BK362 hb
            replace HB := hbs hb
            (try clear hb)
            (try clear ho0)
            refine hK.out _ _ ⟨(blk_cell BK359.out 0).trans rfl, (blk_cell BK359.out 1).trans rfl, (blk_cell BK346.out 0).trans rfl, (blk_cell BK346.out 1).trans rfl, (blk_cell BK362.out 0).trans rfl, (blk_cell BK362.out 1).trans rfl⟩ (fun hHeld => ?_)
            clear hK K
            refine nm_ 75 ?_
            refine pu_ 7 76 HT_ ?_
            refine pu_ 8 77 HT_ ?_
            refine pu_ 9 78 HT_ ?_
            refine pu_ 10 79 HT_ ?_
            refine pu_ 12 81 HT_ ?_
            refine pu_ 13 82 HT_ ?_
            refine pu_ 14 83 HT_ ?_
            refine tk_ 11 80 HT_ HW_ hHeld ?_
            refine on_ 15 HT_ (fun K hK => ?_)
            refine gs_ Try.func72 #[.int .i64 t352, .int .i64 t339, .int .i64 t353] ?_
            with_reducible refine (spec_ShapeBound.calls t352 t339 t353 t367 t368 _ A53.out).mono ?_
            rintro e w56 ⟨rfl, hb⟩
            refine ⟨_, rfl, ?_⟩
            replace HO_3 := rbl HO_3 hb
            replace HO_347001 := rbl HO_347001 hb
            replace HO_360001 := rbl HO_360001 hb
            replace HO366 := rbl HO366 hb
            replace BK346 := bkb BK346 hb
            replace BK359 := bkb BK359 hb
            replace BK362 := bkb BK362 hb
            replace HB := hbs hb
            (try clear hb)
            refine hK.out _ _ ⟨(blk_cell BK359.out 0).trans rfl, (blk_cell BK359.out 1).trans rfl, (blk_cell BK346.out 0).trans rfl, (blk_cell BK346.out 1).trans rfl, (blk_cell BK362.out 0).trans rfl, (blk_cell BK362.out 1).trans rfl⟩ (fun hHeld => ?_)
            clear hK K
            refine nm_ 84 ?_
            refine pu_ 16 85 HT_ ?_
            refine pu_ 17 86 HT_ ?_
            refine pu_ 18 87 HT_ ?_
            refine pu_ 19 2 HT_ ?_
            refine done_ (done_of HT_.out (by kernel_rfl)) ?_
            try go_wp2
            go_ret
            exact ⟨enq, bnx⟩
           ·rw [if_neg c52] at H
            have c52b0 : (t355 == t363) = false := beq_eq_false_iff_ne.mpr c52
            have c52b1 : (t355 != t363) = true := bne_iff_ne.mpr c52
            exact absurd H (by simp)
          ·replace c50 := Bool.eq_false_iff.mpr c50
           subst c50
           replace H : (laws_FnShapes.l0 kj28 t338 t339 t352 t353 (([] : List Int)) 0 t342 t343 t355 t356 t360 t361) = some r := by rw [if_neg (show ¬ (false = true) by decide)] at H; exact H
           obtain ⟨y369, hy369⟩ : ∃ y_ : List Int, y_ = (([] : List Int)) := ⟨_, rfl⟩
           replace H : (laws_FnShapes.l0 kj28 t338 t339 t352 t353 y369 0 t342 t343 t355 t356 t360 t361) = some r := by first | (rw [hy369]; with_reducible exact H) | (have H2_ := (Option.bind_some _ _).symm.trans H; rw [hy369]; with_reducible exact H2_) | (have H2_ := (Option.bind_some _ _).symm.trans H; with_reducible exact H2_) | with_reducible exact H | (rw [hy369]; exact H) | exact H
           have Ny369 := Aside0.mk hy369
           clear hy369
           have H' := Aside0.mk H
           clear H
           go_wp2_with (first | ((with_reducible refine gate_dst (N := 88) rfl ?_); refine Kd.R_lit (Kd.int .i64) _ 2 ?hg (N := 88) ?hd (xs := ([] : List Int)) (inner := []) (ok := fun _ => True) (okp := fun _ => True) ?hr ?hp (fun _ hk => hk) trivial (Below.refl _ _) (Nat.le_refl _) (by simp) ?_; (case hd => rfl); (case hg => rfl); (case hr => first | (go_simp; done) | (go_simp; rfl)); (case hp => exact (Reps.none _ _)); intro v370 w57 ho58 hb hg_ hnew_; clear hg_ hnew_; (first | rw [← Ny369.out] at ho58 | (simp only [Int.reduceToNat] at ho58; rw [← Ny369.out] at ho58)); have HO371 := am (Kd.R_lower (Kd.R_new' (Kd.R_new' (Kd.R_new' ho58 (rlt HO_3)) (rlt HO_347001)) (rlt HO_360001)) bsz); replace HO_3 := rel HO_3 ho58 hb; replace HO_347001 := rel HO_347001 ho58 hb; replace HO_360001 := rel HO_360001 ho58 hb; replace BK346 := bkb BK346 hb; replace BK359 := bkb BK359 hb; replace BK362 := bkb BK362 hb; replace HB := hbs hb; clear hb ho58))
           go_loopg [11, 12] kj28 (fun kq v11 v12 w' => ∃ (x11_4 : List Int) (x12_4 : Int), v12 = .int .i64 x12_4 ∧ Aside0 (laws_FnShapes.l0 kq t338 t339 t352 t353 x11_4 x12_4 t342 t343 t355 t356 t360 t361 = some r) ∧ Aside0 (kq ≤ kj28) ∧ Aside0 (Kd.R (Kd.int .i64) 2 w' w.heap.size (fun k_ => some k_ ≠ (v11 : Value).ownBlock ∧ some k_ ≠ ((.slice Ao17 t343.length co17) : Value).ownBlock ∧ some k_ ≠ ((.slice Ao35 t356.length co35) : Value).ownBlock) (.slice Ao13 t338.length co13) t338) ∧ Aside0 (Kd.R (Kd.int .i64) 2 w' w.heap.size (fun k_ => some k_ ≠ ((.slice Ao13 t338.length co13) : Value).ownBlock ∧ some k_ ≠ ((.slice Ao17 t343.length co17) : Value).ownBlock ∧ some k_ ≠ ((.slice Ao35 t356.length co35) : Value).ownBlock) v11 x11_4) ∧ Aside0 (Kd.R (Kd.int .i64) 2 w' w.heap.size (fun k_ => some k_ ≠ ((.slice Ao13 t338.length co13) : Value).ownBlock ∧ some k_ ≠ (v11 : Value).ownBlock ∧ some k_ ≠ ((.slice Ao35 t356.length co35) : Value).ownBlock) (.slice Ao17 t343.length co17) t343) ∧ Aside0 (Kd.R (Kd.int .i64) 2 w' w.heap.size (fun k_ => some k_ ≠ ((.slice Ao13 t338.length co13) : Value).ownBlock ∧ some k_ ≠ (v11 : Value).ownBlock ∧ some k_ ≠ ((.slice Ao17 t343.length co17) : Value).ownBlock) (.slice Ao35 t356.length co35) t356) ∧ Aside0 (w'.heap[gb346]? = some (.cells #[.int .i64 t342, (.slice Ao17 t343.length co17)] 28 (0, 0))) ∧ Aside0 (w'.heap[gb359]? = some (.cells #[.int .i64 t355, (.slice Ao35 t356.length co35)] 28 (0, 0))) ∧ Aside0 (w'.heap[gb362]? = some (.cells #[.int .i64 t360, .int .i64 t361] 31 (0, 0))) ∧ Aside0 (Below w.heap.size w w'))
           case atStart => exact ⟨(y369), (0), rq, H', ⟨Nat.le_refl _⟩, ⟨by (with_reducible repeat (first | apply Kd.R_alloc | apply Kd.R_drewN | apply Kd.R_drew)); exact Kd.R_mono HO_3.out (fun _ hk => ⟨hk.2, ⟨hk.1.1, hk.1.2⟩⟩)⟩, ⟨by (with_reducible repeat (first | apply Kd.R_alloc | apply Kd.R_drewN | apply Kd.R_drew)); exact Kd.R_mono HO371.out (fun _ hk => ⟨hk.1.1.2, ⟨hk.1.2, hk.2⟩⟩)⟩, ⟨by (with_reducible repeat (first | apply Kd.R_alloc | apply Kd.R_drewN | apply Kd.R_drew)); exact Kd.R_mono HO_347001.out (fun _ hk => ⟨hk.1.1, ⟨hk.2, hk.1.2⟩⟩)⟩, ⟨by (with_reducible repeat (first | apply Kd.R_alloc | apply Kd.R_drewN | apply Kd.R_drew)); exact Kd.R_mono HO_360001.out (fun _ hk => ⟨hk.1.1, ⟨hk.2, hk.1.2⟩⟩)⟩, ⟨bpl BK346.out⟩, ⟨bpl BK359.out⟩, ⟨bpl BK362.out⟩, ⟨bnx⟩⟩
           case round =>
            clear H'
            try clear c1
            try clear c2
            try clear p2
            try clear c3
            try clear c4
            try clear c5
            try clear c6
            try clear p6
            try clear c7
            try clear c7b0
            try clear c7b1
            try clear c8
            try clear c8b0
            try clear c8b1
            try clear c12
            try clear c15
            try clear c24
            try clear c24b0
            try clear c24b1
            try clear c26
            try clear c33
            try clear c38
            try clear c39
            try clear c41
            try clear c41b0
            try clear c41b1
            try clear c42
            try clear c43
            try clear c45
            try clear c47
            try clear c48
            try clear c49
            try clear c50
            try clear c52
            try clear c52b0
            try clear c52b1
            try clear hcz16_0 hcz16_1
            try clear hcz21_0 hcz21_1
            try clear hcz30_0 hcz30_1
            try clear hcz34_0 hcz34_1
            try clear hcz40_0 hcz40_1
            try clear hcz44_0 hcz44_1
            try clear hcz46_0 hcz46_1
            try clear hcz49_0 hcz49_1
            try clear hfz16_0 hfz16_1
            try clear hfz21_0 hfz21_1
            try clear hfz30_0 hfz30_1
            try clear hfz34_0 hfz34_1
            try clear hfz40_0 hfz40_1
            try clear hfz44_0 hfz44_1
            try clear hfz46_0 hfz46_1
            try clear hfz49_0 hfz49_1
            try clear p2
            try clear p6
            obtain ⟨x11_4, x12_4, rfl, HA, HK4, HO_3, HO_11, HO_347001, HO_360001, BK346, BK359, BK362, HB⟩ := hrel
            cases gk with
            | zero => exact absurd HA.out (by simp [laws_FnShapes.l0])
            | succ k4 =>
             have H := HA.out
             clear HA
             simp only [laws_FnShapes.l0] at H
             by_cases c59 : x12_4 < (t338.length : Int)
             ·rw [if_pos c59] at H
              have c59b0 : decide (x12_4 < (t338.length : Int)) = true := decide_eq_true c59
              clear c59
              by_cases c60 : x11_4.length < 17592186044416
              ·rw [if_pos c60] at H
               have LMc60 := Aside0.mk c60
               clear c60
               obtain ⟨y372, hy372⟩ : ∃ y_ : List Int, y_ = (x11_4 ++ [t361]) := ⟨_, rfl⟩
               replace H : (laws_FnShapes.l0 k4 t338 t339 t352 t353 y372 (wrap64 (x12_4 + 1)) t342 t343 t355 t356 t360 t361) = some r := by first | (rw [hy372]; with_reducible exact H) | (have H2_ := (Option.bind_some _ _).symm.trans H; rw [hy372]; with_reducible exact H2_) | (have H2_ := (Option.bind_some _ _).symm.trans H; with_reducible exact H2_) | with_reducible exact H | (rw [hy372]; exact H) | exact H
               have Ny372 := Aside0.mk hy372
               clear hy372
               have H' := Aside0.mk H
               clear H
               have hnb61 := NB362_346.out
               have hnc61 := NB346_362.out
               have hnb62 := NB362_359.out
               have hnc62 := NB359_362.out
               obtain ⟨hcz63_0, hcz63_1, hfz63_0, hfz63_1⟩ := cf2 (W := wr) BK362.out
               go_wp2_with (first | ((with_reducible refine gate_builtin (b := .append) (xs := #[.tmp 95, .tmp 98]) rfl ?_); at_builtin; refine Kd.R_append (Kd.int .i64) (w0 := w) w.heap.size rfl (.tmp 95) (.tmp 98) 26 2 (.int .i64 0) 8 rfl Try.underlying26 info2 rfl (by decide) (by omega) u11 x11_4 t361 [.int .i64 t361] (fun k_ => some k_ ≠ (.slice Ao13 t338.length co13 : Value).ownBlock ∧ some k_ ≠ (.slice Ao17 t343.length co17 : Value).ownBlock ∧ some k_ ≠ (.slice Ao35 t356.length co35 : Value).ownBlock) (fun _ => False) rfl rfl ?aP (fun _ hk => hk.elim) ?aF ?aO ?aB ?aS ?aL ?_; (case aP => exact rfl); (case aB => exact bnx); (case aF => exact (fun k_ hk => ⟨Kd.fresh' (Kd.R_lt (rpl HO_3.out)) k_ hk, Kd.fresh' (Kd.R_lt (rpl HO_347001.out)) k_ hk, Kd.fresh' (Kd.R_lt (rpl HO_360001.out)) k_ hk⟩)); (case aO => exact (rpl HO_11.out)); (case aS => exact bsz); (case aL => have := LMc60.out; omega); intro v373 w64 ho hb hg hat; rw [← Ny372.out] at ho; replace HO_3 := am (Kd.R_after (ok := (fun k_ => some k_ ≠ (.slice Ao17 t343.length co17 : Value).ownBlock ∧ some k_ ≠ (.slice Ao35 t356.length co35 : Value).ownBlock)) (by (with_reducible repeat (first | apply Kd.R_alloc | apply Kd.R_drewN | apply Kd.R_drew)); exact Kd.R_mono HO_3.out (fun _ hk => ⟨⟨hk.2.1, hk.2.2⟩, hk.1⟩)) hg hat); replace HO_347001 := am (Kd.R_after (ok := (fun k_ => some k_ ≠ (.slice Ao13 t338.length co13 : Value).ownBlock ∧ some k_ ≠ (.slice Ao35 t356.length co35 : Value).ownBlock)) (by (with_reducible repeat (first | apply Kd.R_alloc | apply Kd.R_drewN | apply Kd.R_drew)); exact Kd.R_mono HO_347001.out (fun _ hk => ⟨⟨hk.1, hk.2.2⟩, hk.2.1⟩)) hg hat); replace HO_360001 := am (Kd.R_after (ok := (fun k_ => some k_ ≠ (.slice Ao13 t338.length co13 : Value).ownBlock ∧ some k_ ≠ (.slice Ao17 t343.length co17 : Value).ownBlock)) (by (with_reducible repeat (first | apply Kd.R_alloc | apply Kd.R_drewN | apply Kd.R_drew)); exact Kd.R_mono HO_360001.out (fun _ hk => ⟨⟨hk.1, hk.2.2⟩, hk.2.1⟩)) hg hat); replace BK346 := am (blk_grown (bpl BK346.out) hg (Kd.R_ne HO_11.out BK346.out (by decide))); replace BK359 := am (blk_grown (bpl BK359.out) hg (Kd.R_ne HO_11.out BK359.out (by decide))); replace BK362 := am (blk_grown (bpl BK362.out) hg (Kd.R_ne HO_11.out BK362.out (by decide))); replace HB := am hb; have HO374 := am ho; clear HO_11 ho hb hg hat))
               go_roundg k4
               case measure => have := HJ10.out; have := HJ24.out; have := HJ28.out; have := HK4.out; omega
               case rel => exact ⟨(y372), (wrap64 (x12_4 + 1)), rq, H', ⟨by have := HJ10.out; have := HJ24.out; have := HJ28.out; have := HK4.out; omega⟩, ⟨by (with_reducible repeat (first | apply Kd.R_alloc | apply Kd.R_drewN | apply Kd.R_drew)); exact Kd.R_mono HO_3.out (fun _ hk => ⟨hk.2, ⟨hk.1.1, hk.1.2⟩⟩)⟩, ⟨by (with_reducible repeat (first | apply Kd.R_alloc | apply Kd.R_drewN | apply Kd.R_drew)); exact HO374.out⟩, ⟨by (with_reducible repeat (first | apply Kd.R_alloc | apply Kd.R_drewN | apply Kd.R_drew)); exact Kd.R_mono HO_347001.out (fun _ hk => ⟨hk.1.1, ⟨hk.2, hk.1.2⟩⟩)⟩, ⟨by (with_reducible repeat (first | apply Kd.R_alloc | apply Kd.R_drewN | apply Kd.R_drew)); exact Kd.R_mono HO_360001.out (fun _ hk => ⟨hk.1.1, ⟨hk.2, hk.1.2⟩⟩)⟩, ⟨bpl BK346.out⟩, ⟨bpl BK359.out⟩, ⟨bpl BK362.out⟩, ⟨bnx⟩⟩
              ·rw [if_neg c60] at H
               exact absurd H (by simp)
             ·rw [if_neg c59] at H
              have c59b0 : decide (x12_4 < (t338.length : Int)) = false := decide_eq_false c59
              clear c59
              replace H := bnd H
              obtain ⟨t375, A65, H⟩ := H
              by_cases c66 : t375 = 0
              ·rw [if_pos c66] at H
               have c66b0 : (t375 == 0) = true := beq_iff_eq.mpr c66
               have c66b1 : (t375 != 0) = false := bne_eq_false_iff_eq.mpr c66
               clear c66
               replace H := bnd H
               obtain ⟨t376, A67, H⟩ := H
               by_cases c68 : t376 = true
               ·subst c68
                replace H : ((spec_ShapeBound.f t352 t339 t353).bind fun bt377 => (some (t361 == bt377.2))) = some r := by rw [if_pos rfl] at H; exact H
                replace H := bnd H
                obtain ⟨⟨t377, t378⟩, A69, H⟩ := H
                replace H : (some (t361 == t378)) = some r := H
                obtain rfl := Option.some.inj H
                try go_wp2
                replace HO_3 := am (Kd.R_drew HO_3.out)
                replace HO_11 := am (Kd.R_drew HO_11.out)
                replace HO_347001 := am (Kd.R_drew HO_347001.out)
                replace HO_360001 := am (Kd.R_drew HO_360001.out)
                replace BK346 := am (blk_drew BK346.out)
                replace BK359 := am (blk_drew BK359.out)
                replace BK362 := am (blk_drew BK362.out)
                replace HB := am (below_drew1 HB.out)
                refine start_ (n := 23) (S := fun w' => w'.cell? ⟨gb346, 0, none⟩ = some (.int .i64 t342) ∧ w'.cell? ⟨gb346, 1, none⟩ = some (.slice Ao17 t343.length co17) ∧ w'.cell? ⟨gb359, 0, none⟩ = some (.int .i64 t355) ∧ w'.cell? ⟨gb359, 1, none⟩ = some (.slice Ao35 t356.length co35) ∧ w'.cell? ⟨gb362, 0, none⟩ = some (.int .i64 t360) ∧ w'.cell? ⟨gb362, 1, none⟩ = some (.int .i64 t361)) (ds := []) #[false, false, false, false, false, false, false, false, false, false, false, false, false, false, false, false, false, false, false, false, false, false, false] (by kernel_rfl) rfl rfl ⟨(blk_cell BK346.out 0).trans rfl, (blk_cell BK346.out 1).trans rfl, (blk_cell BK359.out 0).trans rfl, (blk_cell BK359.out 1).trans rfl, (blk_cell BK362.out 0).trans rfl, (blk_cell BK362.out 1).trans rfl⟩ (fun hHeld => ?_); refine with_tabW laws_FnShapes.tab23 laws_FnShapes.bits23 (fun HT_ HW_ => ?_)
                generalize wr.drew = w70 at HO_3 HO_11 HO_347001 HO_360001 BK346 BK359 BK362 HB hHeld ⊢
                refine pu_ 0 100 HT_ ?_
                refine pu_ 2 102 HT_ ?_
                refine tk_ 1 101 HT_ HW_ hHeld ?_
                refine on_ 3 HT_ (fun K hK => ?_)
                refine gs_ Try.func42 #[.slice Ao17 t343.length co17, .int .i64 t339] ?_
                with_reducible refine (impl_PulsesFault.calls k4 _ _ t343 t339 t375 _ ?_ ?_ A65.out).mono ?_
                exact crd HO_347001
                exact (Kd.R_reads' HO_347001.out).2.1
                rintro e w71 ⟨rfl, hb⟩
                refine ⟨_, rfl, ?_⟩
                replace HO_3 := rbl HO_3 hb
                replace HO_11 := rbl HO_11 hb
                replace HO_347001 := rbl HO_347001 hb
                replace HO_360001 := rbl HO_360001 hb
                replace BK346 := bkb BK346 hb
                replace BK359 := bkb BK359 hb
                replace BK362 := bkb BK362 hb
                replace HB := hbs hb
                (try clear hb)
                obtain ⟨Ao72, co72, eo72⟩ := Kd.R_slice HO_11.out
                (first | subst eo72 | (injection eo72 with f1_ f2_ f3_; have f4_ := f1_.symm; have f5_ := f3_.symm; clear f1_ f2_ f3_; subst f4_; subst f5_))
                refine hK.out _ _ ⟨(blk_cell BK346.out 0).trans rfl, (blk_cell BK346.out 1).trans rfl, (blk_cell BK359.out 0).trans rfl, (blk_cell BK359.out 1).trans rfl, (blk_cell BK362.out 0).trans rfl, (blk_cell BK362.out 1).trans rfl⟩ (fun hHeld => ?_)
                clear hK K
                refine nm_ 103 ?_
                refine pu_ 4 104 HT_ ?_
                refine pu_ 5 105 HT_ ?_
                refine pu_ 6 106 HT_ ?_
                refine pu_ 8 108 HT_ ?_
                refine pu_ 9 109 HT_ ?_
                refine tk_ 7 107 HT_ HW_ hHeld ?_
                refine on_ 10 HT_ (fun K hK => ?_)
                refine gs_ Try.func73 #[.slice Ao35 t356.length co35, .slice Ao13 t338.length co13, .slice Ao72 x11_4.length co72] ?_
                with_reducible refine (impl_IsWithin.calls k4 _ _ t356 _ _ t338 _ _ x11_4 true _ ?_ ?_ ?_ ?_ ?_ ?_ A67.out).mono ?_
                exact crd HO_360001
                exact (Kd.R_reads' HO_360001.out).2.1
                exact crd HO_3
                exact (Kd.R_reads' HO_3.out).2.1
                exact crd HO_11
                exact (Kd.R_reads' HO_11.out).2.1
                rintro e w73 ⟨rfl, hb⟩
                refine ⟨_, rfl, ?_⟩
                replace HO_3 := rbl HO_3 hb
                replace HO_11 := rbl HO_11 hb
                replace HO_347001 := rbl HO_347001 hb
                replace HO_360001 := rbl HO_360001 hb
                replace BK346 := bkb BK346 hb
                replace BK359 := bkb BK359 hb
                replace BK362 := bkb BK362 hb
                replace HB := hbs hb
                (try clear hb)
                refine hK.out _ _ ⟨(blk_cell BK346.out 0).trans rfl, (blk_cell BK346.out 1).trans rfl, (blk_cell BK359.out 0).trans rfl, (blk_cell BK359.out 1).trans rfl, (blk_cell BK362.out 0).trans rfl, (blk_cell BK362.out 1).trans rfl⟩ (fun hHeld => ?_)
                clear hK K
                refine nm_ 110 ?_
                refine pu_ 11 111 HT_ ?_
                refine pu_ 12 112 HT_ ?_
                refine pu_ 13 113 HT_ ?_
                refine pu_ 15 115 HT_ ?_
                refine pu_ 16 116 HT_ ?_
                refine pu_ 17 117 HT_ ?_
                refine tk_ 14 114 HT_ HW_ hHeld ?_
                refine on_ 18 HT_ (fun K hK => ?_)
                refine gs_ Try.func72 #[.int .i64 t352, .int .i64 t339, .int .i64 t353] ?_
                with_reducible refine (spec_ShapeBound.calls t352 t339 t353 t377 t378 _ A69.out).mono ?_
                rintro e w74 ⟨rfl, hb⟩
                refine ⟨_, rfl, ?_⟩
                replace HO_3 := rbl HO_3 hb
                replace HO_11 := rbl HO_11 hb
                replace HO_347001 := rbl HO_347001 hb
                replace HO_360001 := rbl HO_360001 hb
                replace BK346 := bkb BK346 hb
                replace BK359 := bkb BK359 hb
                replace BK362 := bkb BK362 hb
                replace HB := hbs hb
                (try clear hb)
                refine hK.out _ _ ⟨(blk_cell BK346.out 0).trans rfl, (blk_cell BK346.out 1).trans rfl, (blk_cell BK359.out 0).trans rfl, (blk_cell BK359.out 1).trans rfl, (blk_cell BK362.out 0).trans rfl, (blk_cell BK362.out 1).trans rfl⟩ (fun hHeld => ?_)
                clear hK K
                refine nm_ 118 ?_
                refine pu_ 19 119 HT_ ?_
                refine pu_ 20 120 HT_ ?_
                refine pu_ 21 121 HT_ ?_
                refine pu_ 22 2 HT_ ?_
                refine done_ (done_of HT_.out (by kernel_rfl)) ?_
                try go_wp2
                go_ret
                exact ⟨enq, bnx⟩
               ·replace c68 := Bool.eq_false_iff.mpr c68
                subst c68
                replace H : (none) = some r := by rw [if_neg (show ¬ (false = true) by decide)] at H; exact H
                exact absurd H (by simp)
              ·rw [if_neg c66] at H
               have c66b0 : (t375 == 0) = false := beq_eq_false_iff_ne.mpr c66
               have c66b1 : (t375 != 0) = true := bne_iff_ne.mpr c66
               exact absurd H (by simp)
   ·rw [if_neg c8] at H
    have c8b0 : (t342 == 0) = false := beq_eq_false_iff_ne.mpr c8
    have c8b1 : (t342 != 0) = true := bne_iff_ne.mpr c8
    obtain rfl := Option.some.inj H
    go_enter Try.func12, Try.ntmps12
    try go_wp2_with (first | ((with_reducible refine gate_callee (f := 15) rfl ?_); refine gl_ 14 Try.func15 #[.slice A0 l0.length c0] ?_; (with_reducible refine (laws_lwBig.calls _ _ l0 false _ ?side1 ?side2 A2.out).mono ?_); (case side1 => repeat (first | exact HR0.out | (with_reducible refine Kd.C_alloc ?_ _) | (with_reducible refine Kd.C_drewN ?_ _) | (with_reducible refine Kd.C_drew ?_))); (case side2 => exact HC0.out); rintro e w' ⟨rfl, ⟨nd, rfl⟩⟩; refine ⟨_, rfl, ?_⟩) | ((with_reducible refine gate_callee (f := 67) rfl ?_); refine gl_ 17 Try.func67 #[.slice A0 l0.length c0] ?_; (with_reducible refine (spec_DrawSearchPulses.calls k _ _ l0 t338 t339 _ ?side1 ?side2 A4.out).mono ?_); (case side1 => repeat (first | exact HR0.out | (with_reducible refine Kd.C_alloc ?_ _) | (with_reducible refine Kd.C_drewN ?_ _) | (with_reducible refine Kd.C_drew ?_))); (case side2 => exact HC0.out); rintro e w75 ⟨v340, rfl, ho0, hb⟩; refine ⟨_, rfl, ?_⟩; have HO341 := rlw ho0; replace HB := hbs hb; (try clear hb); (try clear ho0); obtain ⟨Ao76, co76, eo76⟩ := Kd.R_slice HO341.out; subst eo76) | ((with_reducible refine gate_callee (f := 49) rfl ?_); refine gl_ 22 Try.func49 #[.slice Ao76 t338.length co76, .int .i64 t339] ?_; (with_reducible refine (impl_SearchPulses.calls k _ _ t338 t339 t342 t343 _ ?_ ?_ A5.out).mono ?_); exact crd HO341; exact (Kd.R_reads' HO341.out).2.1; rintro e w77 ⟨v344, rfl, ho0, hb⟩; refine ⟨_, rfl, ?_⟩; have HO345 := am (Kd.R_lower (Kd.R_new' ho0 (rlt HO341)) bsz); replace HO341 := rel HO341 ho0 hb; replace HB := hbs hb; (try clear hb); (try clear ho0)) | ((with_reducible refine gate_dst (N := 5) rfl ?_); refine bev 5 28 #[.int .i64 0, .slice none 0 0] ?_; intro gb346 hg w78 hbox hb; replace HO341 := rbl HO341 hb; replace HO345 := rbl HO345 hb; have BK346 := am hbox; have GW346 := gwe hg; have GE346 := gwe hg; replace HB := hbs hb; clear hb hbox hg; obtain ⟨hcz79_0, hcz79_1, hfz79_0, hfz79_1⟩ := cf2 (W := w78) BK346.out; obtain ⟨Ao80, co80, eo80⟩ := Kd.R_slice HO345.out; subst eo80))
    have n0_ : Aside0 (Kd.R (Kd.int .i64) 2 ((w78.setCell ⟨gb346, 0, none⟩ (.int .i64 t342)).setCell ⟨gb346, 1, none⟩ (.slice Ao80 t343.length co80)) w.heap.size (fun k_ => some k_ ≠ (.slice Ao80 t343.length co80 : Value).ownBlock) (.slice Ao76 t338.length co76) t338) := ⟨by (with_reducible repeat (first | apply Kd.R_alloc | apply Kd.R_drewN | apply Kd.R_drew)); exact Kd.R_mono (Kd.R_far (p := ⟨gb346, 1, none⟩) (Kd.R_far (p := ⟨gb346, 0, none⟩) (Kd.R_types HO341.out BK346.out (by decide)) (fun _ hk => hk.2) (.int .i64 t342)) (fun _ hk => hk.2) (.slice Ao80 t343.length co80)) (fun _ hk => hk.1.2)⟩
    have n1_ : Aside0 (Kd.R (Kd.int .i64) 2 ((w78.setCell ⟨gb346, 0, none⟩ (.int .i64 t342)).setCell ⟨gb346, 1, none⟩ (.slice Ao80 t343.length co80)) w.heap.size (fun k_ => some k_ ≠ (.slice Ao76 t338.length co76 : Value).ownBlock) (.slice Ao80 t343.length co80) t343) := ⟨by (with_reducible repeat (first | apply Kd.R_alloc | apply Kd.R_drewN | apply Kd.R_drew)); exact Kd.R_mono (Kd.R_far (p := ⟨gb346, 1, none⟩) (Kd.R_far (p := ⟨gb346, 0, none⟩) (Kd.R_types HO345.out BK346.out (by decide)) (fun _ hk => hk.2) (.int .i64 t342)) (fun _ hk => hk.2) (.slice Ao80 t343.length co80)) (fun _ hk => hk.1.2)⟩
    have n2_ : Aside0 (((w78.setCell ⟨gb346, 0, none⟩ (.int .i64 t342)).setCell ⟨gb346, 1, none⟩ (.slice Ao80 t343.length co80)).heap[gb346]? = some (.cells #[.int .i64 t342, .slice Ao80 t343.length co80] 28 (0, 0))) := ⟨by (with_reducible repeat (first | refine blk_drewN ?_ _ | refine blk_drew ?_ | refine blk_alloc ?_ _)); refine blk_put (cs := #[.int .i64 t342, .slice none 0 0]) ?_ 1 _ rfl; (with_reducible repeat (first | refine blk_drewN ?_ _ | refine blk_drew ?_ | refine blk_alloc ?_ _)); refine blk_put (cs := #[.int .i64 0, .slice none 0 0]) ?_ 0 _ rfl; exact bpl BK346.out⟩
    have n3_ : Aside0 (Below w.heap.size w ((w78.setCell ⟨gb346, 0, none⟩ (.int .i64 t342)).setCell ⟨gb346, 1, none⟩ (.slice Ao80 t343.length co80))) := ⟨bnx⟩
    (try clear HO341)
    (try clear HO345)
    (try clear BK346)
    (try clear HB)
    generalize ((w78.setCell ⟨gb346, 0, none⟩ (.int .i64 t342)).setCell ⟨gb346, 1, none⟩ (.slice Ao80 t343.length co80)) = w81 at n0_ n1_ n2_ n3_ ⊢
    have HO341 := n0_
    have HO345 := n1_
    have BK346 := n2_
    have HB := n3_
    clear n0_ n1_ n2_ n3_
    replace HO341 := am (Kd.R_drew HO341.out)
    replace HO345 := am (Kd.R_drew HO345.out)
    replace BK346 := am (blk_drew BK346.out)
    replace HB := am (below_drew1 HB.out)
    refine start_ (n := 7) (S := fun w' => w'.cell? ⟨gb346, 0, none⟩ = some (.int .i64 t342) ∧ w'.cell? ⟨gb346, 1, none⟩ = some (.slice Ao80 t343.length co80)) (ds := []) #[false, false, false, false, false, false, false] (by kernel_rfl) rfl rfl ⟨(blk_cell BK346.out 0).trans rfl, (blk_cell BK346.out 1).trans rfl⟩ (fun hHeld => ?_)
    generalize w81.drew = w82 at HO341 HO345 BK346 HB hHeld ⊢
    refine pure_ (i := 0) (N := some 23) (v := ?_) (a' := ?_) #[true, false, false, false, false, false, false] rfl rfl (by kernel_rfl) (fun _ _ _ h => h) (Or.inl ⟨by rfl, ?_⟩) ?_ ?_
    rotate_left
    ·intro w'
     go_simp
     with_reducible rfl
    rotate_left
    ·simp only [Act.put, List.setIfInBounds_toArray, List.set_cons_zero, List.set_cons_succ, i64_w, i32_w]
     rfl
    refine pure_ (i := 2) (N := some 25) (v := ?_) (a' := ?_) #[true, false, true, false, false, false, false] rfl rfl (by kernel_rfl) (fun _ _ _ h => h) (Or.inl ⟨by rfl, ?_⟩) ?_ ?_
    rotate_left
    ·intro w'
     go_simp
     with_reducible rfl
    rotate_left
    ·simp only [Act.put, List.setIfInBounds_toArray, List.set_cons_zero, List.set_cons_succ, i64_w, i32_w]
     rfl
    refine pure_ (i := 3) (N := some 26) (v := ?_) (a' := ?_) #[true, false, true, true, false, false, false] rfl rfl (by kernel_rfl) (fun _ _ _ h => h) (Or.inl ⟨by rfl, ?_⟩) ?_ ?_
    rotate_left
    ·intro w'
     go_simp
     with_reducible rfl
    rotate_left
    ·simp only [Act.put, List.setIfInBounds_toArray, List.set_cons_zero, List.set_cons_succ, i64_w, i32_w]
     rfl
    refine take_ (i := 1) (N := some 24) (v := ?_) (a' := ?_) #[true, true, true, true, false, false, false] rfl rfl (by kernel_rfl) (fun _ _ _ h => h) (Or.inl ⟨by rfl, ?_⟩) hHeld ?_ ?_
    rotate_left
    ·rintro w' ⟨s0, s1⟩
     go_simp
     with_reducible rfl
    rotate_left
    ·simp only [Act.put, List.setIfInBounds_toArray, List.set_cons_zero, List.set_cons_succ, i64_w, i32_w]
     rfl
    refine one_ (i := 4) (N := some 27) #[true, true, true, true, true, false, false] rfl rfl (by kernel_rfl) (by decide) (fun K hK => ?_)
    refine gs_ Try.func48 #[.slice Ao76 t338.length co76, .int .i64 t339] ?_
    with_reducible refine (spec_SearchPulses.calls k _ _ t338 t339 t347 t348 _ ?_ ?_ A6.out).mono ?_
    exact crd HO341
    exact (Kd.R_reads' HO341.out).2.1
    rintro e w83 ⟨v349, rfl, ho0, hb⟩
    refine ⟨_, rfl, ?_⟩
    have HO350 := am (Kd.R_lower (Kd.R_new' (Kd.R_new' ho0 (rlt HO341)) (rlt HO345)) bsz)
    replace HO341 := rel HO341 ho0 hb
    replace HO345 := rel HO345 ho0 hb
    replace BK346 := bkb BK346 hb
    replace HB := hbs hb
    (try clear hb)
    (try clear ho0)
    refine hK.out _ _ ⟨(blk_cell BK346.out 0).trans rfl, (blk_cell BK346.out 1).trans rfl⟩ (fun hHeld => ?_)
    clear hK K
    refine nm_ 27 ?_
    refine pure_ (i := 5) (N := some 28) (v := ?_) (a' := ?_) #[true, true, true, true, true, true, false] rfl rfl (by kernel_rfl) (fun _ _ _ h => h) (Or.inl ⟨by rfl, ?_⟩) ?_ ?_
    rotate_left
    ·intro w'
     go_simp
     with_reducible rfl
    rotate_left
    ·simp only [Act.put, List.setIfInBounds_toArray, List.set_cons_zero, List.set_cons_succ, i64_w, i32_w]
     rfl
    refine pure_ (i := 6) (N := some 29) (v := ?_) (a' := ?_) #[true, true, true, true, true, true, true] rfl rfl (by kernel_rfl) (fun _ _ _ h => h) (Or.inl ⟨by rfl, ?_⟩) ?_ ?_
    rotate_left
    ·intro w'
     go_simp
     with_reducible rfl
    rotate_left
    ·simp only [Act.put, List.setIfInBounds_toArray, List.set_cons_zero, List.set_cons_succ, i64_w, i32_w]
     rfl
    refine done_ (by kernel_rfl) ?_
    obtain ⟨hcz84_0, hcz84_1, hfz84_0, hfz84_1⟩ := cf2 (W := w83) BK346.out
    try go_wp2
    go_ret
    exact ⟨enq, bnx⟩
  ·rw [if_neg c7] at H
   exact absurd H (by simp)

/-- THE ONE PURE STATEMENT of laws_FnShapes: yours. -/
def laws_FnShapes.Pure : Prop := ∀ (l0 : List Int), l0.length ≤ maxLen → l0.length * 1 ≤ 140737488351232 → (∀ x ∈ l0, (Lit.int .u8 x).wf = true) → ∃ k, laws_FnShapes.f k l0 = some true
theorem laws_FnShapes.walk (P : laws_FnShapes.Pure) (a0 : Option Addr) (len0 cap0 : Nat) (z0 : List Int) (w : World) (w0 : (a0 = none ∧ len0 = 0 ∧ cap0 = 0 ∧ z0 = []) ∨ ∃ x, a0 = some x ∧ len0 ≤ cap0 ∧ cap0 ≤ maxLen ∧ z0.length = cap0 ∧ (∀ i, i < z0.length → w.cell? (x.add i) = some (.int .u8 (z0.getD i 0))) ∧ ∀ n ∈ z0, (Lit.int .u8 n).wf = true) (y0 : len0 * 1 ≤ 140737488351232) :
  Calls Try.prog 12 #[.slice a0 len0 cap0] w fun e w' => e = .returned (.bool true) ∧ Below w.heap.size w w' := by
 obtain ⟨l0, rfl, hr0, hm0, hw0, hc0⟩ := ReadsInt.ofRowC w0
 obtain ⟨k, h⟩ := P l0 hm0 y0 hw0
 refine (laws_FnShapes.calls k _ _ l0 true w (Kd.C_of_reads (d := (0 : Int)) (h1 := fun _ => rfl) hr0) hc0 h).mono ?_
 rintro e w' ⟨rfl, hd⟩
 exact ⟨rfl, hd⟩

end Go.Proofs.Ytpbkbibjlbbkbaa.PFnShapes
