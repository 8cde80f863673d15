-- Contracts of the functions that the law reaches, written by wip/xprint.py of this repo.
import Derived.Test.YtpbkbibjlbbkbaaPFnBandsx0
import Derived.Test.YtpbkbibjlbbkbaaPFnBandsx1
import Derived.Test.YtpbkbibjlbbkbaaPFnBandsx2
import Derived.Test.YtpbkbibjlbbkbaaPFnBandsx3
import Derived.Test.YtpbkbibjlbbkbaaPFnBandsx8
import Derived.Test.YtpbkbibjlbbkbaaPFnBandsx9
namespace Go.Proofs.Ytpbkbibjlbbkbaa.PFnBands
open Go.RowKit Go.Proofs.YtpbkbibjlbbkbaaW.PrintWords Go.Proofs.YtpbkbibjlbbkbaaW.PrintLast Go.Proofs.YtpbkbibjlbbkbaaW.PrintMore
attribute [local go_sem] max2_int min2_int max_two min_two max_three min_three max_four min_four   -- for this text's walks alone
set_option linter.unusedVariables false
set_option linter.unusedSimpArgs false

attribute [local go_sem high] eqA31
/-! ### laws_FnBands: function 11 -/
mutual
def laws_FnBands.j0 : Nat → Int → List Int → Bool → Int → List Int → Int → List (S83) → Int → Int → Option (Bool)
 | 0, _, _, _, _, _, _, _, _, _ => none
 | k + 1, x3, x4, x57, x469000, x469001, x477000, x477001, x480000, x480001 => if x57 = true then (none) else (if x469000 = 0 then (if (wrap64 (x480001 * 2)) = x3 then (laws_FnBands.l0 k x3 x4 x480001 0 0 x469000 x469001 x477000 x477001 x480000 x480001) else (none)) else (some true))
def laws_FnBands.l0 : Nat → Int → List Int → Int → Int → Int → Int → List Int → Int → List (S83) → Int → Int → Option (Bool)
 | 0, _, _, _, _, _, _, _, _, _, _, _ => none
 | k + 1, x3, x4, x9, x10, x11, x469000, x469001, x477000, x477001, x480000, x480001 => if x11 < (x477001.length : Int) then (if 0 ≤ x11 then (if ((rd_T83 x477001 x11).f0) = x9 then (if ((rd_T83 x477001 x11).f1) < 1 then (none) else (if ((rd_T83 x477001 x11).f1) > 4 then (none) else (laws_FnBands.l0 k x3 x4 (wrap64 (x9 + ((rd_T83 x477001 x11).f1))) x10 (wrap64 (x11 + 1)) x469000 x469001 x477000 x477001 x480000 x480001))) else (none)) else (none)) else (laws_FnBands.l1 k x3 x4 x9 x10 0 x469000 x469001 x477000 x477001 x480000 x480001)
def laws_FnBands.l1 : Nat → Int → List Int → Int → Int → Int → Int → List Int → Int → List (S83) → Int → Int → Option (Bool)
 | 0, _, _, _, _, _, _, _, _, _, _, _ => none
 | k + 1, x3, x4, x9, x10, x12, x469000, x469001, x477000, x477001, x480000, x480001 => if x12 < (x469001.length : Int) then (if 0 ≤ x12 then (laws_FnBands.l1 k x3 x4 x9 (wrap64 (x10 + (rd x469001 x12))) (wrap64 (x12 + 1)) x469000 x469001 x477000 x477001 x480000 x480001) else (none)) else (if x9 = x3 then (if (x469001.length : Int) = (x477001.length : Int) then (if 0 ≤ x480001 then (if x480001 ≤ (x4.length : Int) then ((impl_NormOf.f k (x4.drop (x480001 : Int).toNat)).bind fun bt496 => (some (x10 == bt496.2))) else (none)) else (none)) else (none)) else (none))
end
def laws_FnBands.f (k : Nat) (l0 : List Int) : Option (Bool) := (laws_lwBig.f l0).bind fun t459 => (if t459 = true then (some true) else ((spec_DrawBandNorms.f k l0).bind fun bt460 => ((impl_BandNorms.f k bt460.1 bt460.2).bind fun bt464 => ((impl_MaskOf.f k bt460.1 bt460.2).bind fun bt469 => ((impl_BandsOf.f bt460.1).bind fun bt472 => ((impl_LowCount.f bt460.1).bind fun bt477 => ((spec_BandNorms.f k bt460.1 bt460.2).bind fun bt480 => (if bt464.1 = bt480.1 then ((spec_MaskOf.f k bt460.1 bt460.2).bind fun bt484 => (if (!(bt469.1 == bt484.1) || (!(bt469.2 == bt484.2))) = true then (none) else ((spec_SizeFault.f bt460.1).bind fun t486 => (if bt472.1 = t486 then (laws_FnBands.j0 k bt460.1 bt460.2 (bt477.1 != bt472.1) bt464.1 bt464.2 bt472.1 bt472.2 bt477.1 bt477.2) else (none))))) else (none)))))))))
theorem laws_FnBands.mono_l : ∀ k, (∀ y0 y1 y2 y3 y4 y5 y6 y7 y8, LeO (laws_FnBands.j0 k y0 y1 y2 y3 y4 y5 y6 y7 y8) (laws_FnBands.j0 (k + 1) y0 y1 y2 y3 y4 y5 y6 y7 y8)) ∧ (∀ y0 y1 y2 y3 y4 y5 y6 y7 y8 y9 y10, LeO (laws_FnBands.l0 k y0 y1 y2 y3 y4 y5 y6 y7 y8 y9 y10) (laws_FnBands.l0 (k + 1) y0 y1 y2 y3 y4 y5 y6 y7 y8 y9 y10)) ∧ (∀ y0 y1 y2 y3 y4 y5 y6 y7 y8 y9 y10, LeO (laws_FnBands.l1 k y0 y1 y2 y3 y4 y5 y6 y7 y8 y9 y10) (laws_FnBands.l1 (k + 1) y0 y1 y2 y3 y4 y5 y6 y7 y8 y9 y10))
 | 0 => ⟨fun _ _ _ _ _ _ _ _ _ r h => by simp [laws_FnBands.j0] at h, fun _ _ _ _ _ _ _ _ _ _ _ r h => by simp [laws_FnBands.l0] at h, fun _ _ _ _ _ _ _ _ _ _ _ r h => by simp [laws_FnBands.l1] at h⟩
 | k + 1 => by
  obtain ⟨ih0, ih1, ih2⟩ := laws_FnBands.mono_l k
  refine ⟨?_, ?_, ?_⟩
  ·intro y0 y1 y2 y3 y4 y5 y6 y7 y8
   unfold laws_FnBands.j0
   repeat' first
   | (with_reducible exact ih0 _ _ _ _ _ _ _ _ _)
   | (with_reducible exact ih1 _ _ _ _ _ _ _ _ _ _ _)
   | (with_reducible exact ih2 _ _ _ _ _ _ _ _ _ _ _)
   | (with_reducible exact impl_BandNorms.mono _ _ _)
   | (with_reducible exact impl_MaskOf.mono _ _ _)
   | (with_reducible exact impl_NormOf.mono _ _)
   | (with_reducible exact spec_BandNorms.mono _ _ _)
   | (with_reducible exact spec_DrawBandNorms.mono _ _)
   | (with_reducible exact spec_MaskOf.mono _ _ _)
   | (with_reducible exact LeO.refl _)
   | (with_reducible exact LeO.none _)
   | (with_reducible refine LeO.ite ?_ ?_)
   | (with_reducible refine LeO.bind ?_ (fun _ => ?_))
   | exact ih0 _ _ _ _ _ _ _ _ _
   | exact ih1 _ _ _ _ _ _ _ _ _ _ _
   | exact ih2 _ _ _ _ _ _ _ _ _ _ _
   | exact impl_BandNorms.mono _ _ _
   | exact impl_MaskOf.mono _ _ _
   | exact impl_NormOf.mono _ _
   | exact spec_BandNorms.mono _ _ _
   | exact spec_DrawBandNorms.mono _ _
   | exact spec_MaskOf.mono _ _ _
   | exact LeO.none _
   | refine LeO.ite ?_ ?_
   | refine LeO.bind ?_ (fun _ => ?_)
  ·intro y0 y1 y2 y3 y4 y5 y6 y7 y8 y9 y10
   unfold laws_FnBands.l0
   repeat' first
   | (with_reducible exact ih0 _ _ _ _ _ _ _ _ _)
   | (with_reducible exact ih1 _ _ _ _ _ _ _ _ _ _ _)
   | (with_reducible exact ih2 _ _ _ _ _ _ _ _ _ _ _)
   | (with_reducible exact impl_BandNorms.mono _ _ _)
   | (with_reducible exact impl_MaskOf.mono _ _ _)
   | (with_reducible exact impl_NormOf.mono _ _)
   | (with_reducible exact spec_BandNorms.mono _ _ _)
   | (with_reducible exact spec_DrawBandNorms.mono _ _)
   | (with_reducible exact spec_MaskOf.mono _ _ _)
   | (with_reducible exact LeO.refl _)
   | (with_reducible exact LeO.none _)
   | (with_reducible refine LeO.ite ?_ ?_)
   | (with_reducible refine LeO.bind ?_ (fun _ => ?_))
   | exact ih0 _ _ _ _ _ _ _ _ _
   | exact ih1 _ _ _ _ _ _ _ _ _ _ _
   | exact ih2 _ _ _ _ _ _ _ _ _ _ _
   | exact impl_BandNorms.mono _ _ _
   | exact impl_MaskOf.mono _ _ _
   | exact impl_NormOf.mono _ _
   | exact spec_BandNorms.mono _ _ _
   | exact spec_DrawBandNorms.mono _ _
   | exact spec_MaskOf.mono _ _ _
   | exact LeO.none _
   | refine LeO.ite ?_ ?_
   | refine LeO.bind ?_ (fun _ => ?_)
  ·intro y0 y1 y2 y3 y4 y5 y6 y7 y8 y9 y10
   unfold laws_FnBands.l1
   repeat' first
   | (with_reducible exact ih0 _ _ _ _ _ _ _ _ _)
   | (with_reducible exact ih1 _ _ _ _ _ _ _ _ _ _ _)
   | (with_reducible exact ih2 _ _ _ _ _ _ _ _ _ _ _)
   | (with_reducible exact impl_BandNorms.mono _ _ _)
   | (with_reducible exact impl_MaskOf.mono _ _ _)
   | (with_reducible exact impl_NormOf.mono _ _)
   | (with_reducible exact spec_BandNorms.mono _ _ _)
   | (with_reducible exact spec_DrawBandNorms.mono _ _)
   | (with_reducible exact spec_MaskOf.mono _ _ _)
   | (with_reducible exact LeO.refl _)
   | (with_reducible exact LeO.none _)
   | (with_reducible refine LeO.ite ?_ ?_)
   | (with_reducible refine LeO.bind ?_ (fun _ => ?_))
   | exact ih0 _ _ _ _ _ _ _ _ _
   | exact ih1 _ _ _ _ _ _ _ _ _ _ _
   | exact ih2 _ _ _ _ _ _ _ _ _ _ _
   | exact impl_BandNorms.mono _ _ _
   | exact impl_MaskOf.mono _ _ _
   | exact impl_NormOf.mono _ _
   | exact spec_BandNorms.mono _ _ _
   | exact spec_DrawBandNorms.mono _ _
   | exact spec_MaskOf.mono _ _ _
   | exact LeO.none _
   | refine LeO.ite ?_ ?_
   | refine LeO.bind ?_ (fun _ => ?_)
theorem laws_FnBands.mono : ∀ a0 k, LeO (laws_FnBands.f k a0) (laws_FnBands.f (k + 1) a0) := by
 intro a0 k
 obtain ⟨ih0, ih1, ih2⟩ := laws_FnBands.mono_l k
 unfold laws_FnBands.f
 repeat' first
   | (with_reducible exact ih0 _ _ _ _ _ _ _ _ _)
   | (with_reducible exact ih1 _ _ _ _ _ _ _ _ _ _ _)
   | (with_reducible exact ih2 _ _ _ _ _ _ _ _ _ _ _)
   | (with_reducible exact impl_BandNorms.mono _ _ _)
   | (with_reducible exact impl_MaskOf.mono _ _ _)
   | (with_reducible exact impl_NormOf.mono _ _)
   | (with_reducible exact spec_BandNorms.mono _ _ _)
   | (with_reducible exact spec_DrawBandNorms.mono _ _)
   | (with_reducible exact spec_MaskOf.mono _ _ _)
   | (with_reducible exact LeO.refl _)
   | (with_reducible exact LeO.none _)
   | (with_reducible refine LeO.ite ?_ ?_)
   | (with_reducible refine LeO.bind ?_ (fun _ => ?_))
   | exact ih0 _ _ _ _ _ _ _ _ _
   | exact ih1 _ _ _ _ _ _ _ _ _ _ _
   | exact ih2 _ _ _ _ _ _ _ _ _ _ _
   | exact impl_BandNorms.mono _ _ _
   | exact impl_MaskOf.mono _ _ _
   | exact impl_NormOf.mono _ _
   | exact spec_BandNorms.mono _ _ _
   | exact spec_DrawBandNorms.mono _ _
   | exact spec_MaskOf.mono _ _ _
   | exact LeO.none _
   | refine LeO.ite ?_ ?_
   | refine LeO.bind ?_ (fun _ => ?_)
def laws_FnBands.T8 : Bool × List (List Nat × List Nat) := (true, [([], []), ([0], [0]), ([], []), ([], []), ([2, 3], [2, 3]), ([4], [4]), ([1, 5], [1, 5]), ([6, 4], [6]), ([7], [7]), ([7], [7]), ([7], [7]), ([9, 10, 7, 7], [7, 9, 10]), ([8, 11, 7], [7, 8, 11]), ([7, 12], [7, 12]), ([13, 11], [13]), ([14], [14]), ([15, 14], [14, 15]), ([14], [14]), ([17, 14, 14], [14, 17]), ([16, 18, 14], [14, 16, 18]), ([14, 19], [14, 19]), ([20, 18], [20]), ([21], [21]), ([22, 21], [21, 22]), ([21], [21]), ([24, 21], [21, 24]), ([23, 25, 21], [21, 23, 25]), ([21, 26], [21, 26])])
def laws_FnBands.B8 : List Nat := [0, 1, 0, 0, 12, 28, 63, 127, 255, 255, 255, 1791, 4095, 8191, 16383, 32767, 65535, 32767, 163839, 524287, 1048575, 2097151, 4194303, 8388607, 4194303, 20971519, 67108863, 134217727]
theorem laws_FnBands.tab8 : rtab .any (opsOf Try.f11 8) = laws_FnBands.T8 := by kernel_rfl
theorem laws_FnBands.bits8 : waitsOk laws_FnBands.T8.2 laws_FnBands.B8 = true := by kernel_rfl
set_option maxHeartbeats 8000000 in
set_option maxRecDepth 100000 in
theorem laws_FnBands.calls (k : Nat) (A0 : Option Addr) (c0 : Nat) (l0 : List Int) (r : Bool) (w : World) (hr0 : Kd.C (Kd.int .u8) w A0 l0.length l0) (hc0 : l0.length ≤ c0) (h : laws_FnBands.f k l0 = some r) :
  Calls Try.prog 11 #[.slice A0 l0.length c0] w fun e w' => e = .returned (.bool r) ∧ Below w.heap.size w w' := by
 have hfd28_0 : ∀ (x0 : Int) (x1 : Value) (W : World), (Instr.field 28 (.agg #[.int .i64 x0, x1]) 0).run Try.prog W = .ok (.int .i64 x0) W := fun _ _ _ => by kernel_rfl
 have hfd31_1 : ∀ (x0 : Int) (x1 : Int) (W : World), (Instr.field 31 (.agg #[.int .i64 x0, .int .i64 x1]) 1).run Try.prog W = .ok (.int .i64 x1) W := fun _ _ _ => by kernel_rfl
 have hu28 := Try.underlying28
 have hu31 := Try.underlying31
 have hu79 := Try.underlying79
 have HR0 := Aside0.mk hr0
 have HC0 := Aside0.mk hc0
 clear hr0 hc0
 have HB := Aside0.mk (Below.refl w.heap.size w)
 have H : ((laws_lwBig.f l0).bind fun t459 => (if t459 = true then (some true) else ((spec_DrawBandNorms.f k l0).bind fun bt460 => ((impl_BandNorms.f k bt460.1 bt460.2).bind fun bt464 => ((impl_MaskOf.f k bt460.1 bt460.2).bind fun bt469 => ((impl_BandsOf.f bt460.1).bind fun bt472 => ((impl_LowCount.f bt460.1).bind fun bt477 => ((spec_BandNorms.f k bt460.1 bt460.2).bind fun bt480 => (if bt464.1 = bt480.1 then ((spec_MaskOf.f k bt460.1 bt460.2).bind fun bt484 => (if (!(bt469.1 == bt484.1) || (!(bt469.2 == bt484.2))) = true then (none) else ((spec_SizeFault.f bt460.1).bind fun t486 => (if bt472.1 = t486 then (laws_FnBands.j0 k bt460.1 bt460.2 (bt477.1 != bt472.1) bt464.1 bt464.2 bt472.1 bt472.2 bt477.1 bt477.2) else (none))))) else (none)))))))))) = some r := h
 clear h
 replace H := Option.bind_eq_some_iff.mp H
 obtain ⟨t459, A20, H⟩ := H
 replace H : (if t459 = true then (some true) else ((spec_DrawBandNorms.f k l0).bind fun bt460 => ((impl_BandNorms.f k bt460.1 bt460.2).bind fun bt464 => ((impl_MaskOf.f k bt460.1 bt460.2).bind fun bt469 => ((impl_BandsOf.f bt460.1).bind fun bt472 => ((impl_LowCount.f bt460.1).bind fun bt477 => ((spec_BandNorms.f k bt460.1 bt460.2).bind fun bt480 => (if bt464.1 = bt480.1 then ((spec_MaskOf.f k bt460.1 bt460.2).bind fun bt484 => (if (!(bt469.1 == bt484.1) || (!(bt469.2 == bt484.2))) = true then (none) else ((spec_SizeFault.f bt460.1).bind fun t486 => (if bt472.1 = t486 then (laws_FnBands.j0 k bt460.1 bt460.2 (bt477.1 != bt472.1) bt464.1 bt464.2 bt472.1 bt472.2 bt477.1 bt477.2) else (none))))) else (none))))))))) = some r := H
 have A2 := Aside0.mk A20
 clear A20
 by_cases c3 : t459 = true
 ·subst c3
  replace H : (some true) = some r := by rw [if_pos rfl] at H; exact H
  obtain rfl := Option.some.inj H
  go_enter Try.func11, Try.ntmps11
  go_wp2_with (first | ((with_reducible refine gate_callee (f := 15) rfl ?_); refine goesL_ (some 14) rfl rfl Try.func15 (by kernel_rfl) rfl #[.slice A0 l0.length c0] rfl (by (try simp only [List.map_toArray, List.map_cons, List.map_nil]); first | done | rfl | (simp only [List.length_drop, List.length_take]; rfl)) ?_; (with_reducible refine (laws_lwBig.calls _ _ l0 true _ ?side1 ?side2 A2.out).mono ?_); (case side1 => repeat (first | exact HR0.out | (with_reducible refine Kd.C_alloc ?_ _) | (with_reducible refine Kd.C_drewN ?_ _) | (with_reducible refine Kd.C_drew ?_))); (case side2 => exact HC0.out); rintro e w' ⟨rfl, ⟨nd, rfl⟩⟩; refine ⟨_, rfl, ?_⟩))
  go_ret
  exact ⟨by first | rfl | (simp [errW_none, errW_some] <;> rfl) | (simp [*, errW_none, errW_some] <;> rfl), by repeat (first | (with_reducible first | exact HB.out | apply below_alloc | apply pw_below_drewN | apply below_drew1) | exact HB.out)⟩
 ·replace c3 := Bool.eq_false_iff.mpr c3
  subst c3
  replace H : ((spec_DrawBandNorms.f k l0).bind fun bt460 => ((impl_BandNorms.f k bt460.1 bt460.2).bind fun bt464 => ((impl_MaskOf.f k bt460.1 bt460.2).bind fun bt469 => ((impl_BandsOf.f bt460.1).bind fun bt472 => ((impl_LowCount.f bt460.1).bind fun bt477 => ((spec_BandNorms.f k bt460.1 bt460.2).bind fun bt480 => (if bt464.1 = bt480.1 then ((spec_MaskOf.f k bt460.1 bt460.2).bind fun bt484 => (if (!(bt469.1 == bt484.1) || (!(bt469.2 == bt484.2))) = true then (none) else ((spec_SizeFault.f bt460.1).bind fun t486 => (if bt472.1 = t486 then (laws_FnBands.j0 k bt460.1 bt460.2 (bt477.1 != bt472.1) bt464.1 bt464.2 bt472.1 bt472.2 bt477.1 bt477.2) else (none))))) else (none)))))))) = some r := by rw [if_neg (show ¬ (false = true) by decide)] at H; exact H
  replace H := Option.bind_eq_some_iff.mp H
  obtain ⟨⟨t460, t461⟩, A40, H⟩ := H
  replace H : ((impl_BandNorms.f k t460 t461).bind fun bt464 => ((impl_MaskOf.f k t460 t461).bind fun bt469 => ((impl_BandsOf.f t460).bind fun bt472 => ((impl_LowCount.f t460).bind fun bt477 => ((spec_BandNorms.f k t460 t461).bind fun bt480 => (if bt464.1 = bt480.1 then ((spec_MaskOf.f k t460 t461).bind fun bt484 => (if (!(bt469.1 == bt484.1) || (!(bt469.2 == bt484.2))) = true then (none) else ((spec_SizeFault.f t460).bind fun t486 => (if bt472.1 = t486 then (laws_FnBands.j0 k t460 t461 (bt477.1 != bt472.1) bt464.1 bt464.2 bt472.1 bt472.2 bt477.1 bt477.2) else (none))))) else (none))))))) = some r := H
  have A4 := Aside0.mk A40
  clear A40
  replace H := Option.bind_eq_some_iff.mp H
  obtain ⟨⟨t464, t465⟩, A50, H⟩ := H
  replace H : ((impl_MaskOf.f k t460 t461).bind fun bt469 => ((impl_BandsOf.f t460).bind fun bt472 => ((impl_LowCount.f t460).bind fun bt477 => ((spec_BandNorms.f k t460 t461).bind fun bt480 => (if t464 = bt480.1 then ((spec_MaskOf.f k t460 t461).bind fun bt484 => (if (!(bt469.1 == bt484.1) || (!(bt469.2 == bt484.2))) = true then (none) else ((spec_SizeFault.f t460).bind fun t486 => (if bt472.1 = t486 then (laws_FnBands.j0 k t460 t461 (bt477.1 != bt472.1) t464 t465 bt472.1 bt472.2 bt477.1 bt477.2) else (none))))) else (none)))))) = some r := H
  have A5 := Aside0.mk A50
  clear A50
  replace H := Option.bind_eq_some_iff.mp H
  obtain ⟨⟨t469, t470⟩, A60, H⟩ := H
  replace H : ((impl_BandsOf.f t460).bind fun bt472 => ((impl_LowCount.f t460).bind fun bt477 => ((spec_BandNorms.f k t460 t461).bind fun bt480 => (if t464 = bt480.1 then ((spec_MaskOf.f k t460 t461).bind fun bt484 => (if (!(t469 == bt484.1) || (!(t470 == bt484.2))) = true then (none) else ((spec_SizeFault.f t460).bind fun t486 => (if bt472.1 = t486 then (laws_FnBands.j0 k t460 t461 (bt477.1 != bt472.1) t464 t465 bt472.1 bt472.2 bt477.1 bt477.2) else (none))))) else (none))))) = some r := H
  have A6 := Aside0.mk A60
  clear A60
  replace H := Option.bind_eq_some_iff.mp H
  obtain ⟨⟨t472, t473⟩, A70, H⟩ := H
  replace H : ((impl_LowCount.f t460).bind fun bt477 => ((spec_BandNorms.f k t460 t461).bind fun bt480 => (if t464 = bt480.1 then ((spec_MaskOf.f k t460 t461).bind fun bt484 => (if (!(t469 == bt484.1) || (!(t470 == bt484.2))) = true then (none) else ((spec_SizeFault.f t460).bind fun t486 => (if t472 = t486 then (laws_FnBands.j0 k t460 t461 (bt477.1 != t472) t464 t465 t472 t473 bt477.1 bt477.2) else (none))))) else (none)))) = some r := H
  have A7 := Aside0.mk A70
  clear A70
  replace H := Option.bind_eq_some_iff.mp H
  obtain ⟨⟨t477, t478⟩, A80, H⟩ := H
  replace H : ((spec_BandNorms.f k t460 t461).bind fun bt480 => (if t464 = bt480.1 then ((spec_MaskOf.f k t460 t461).bind fun bt484 => (if (!(t469 == bt484.1) || (!(t470 == bt484.2))) = true then (none) else ((spec_SizeFault.f t460).bind fun t486 => (if t472 = t486 then (laws_FnBands.j0 k t460 t461 (t477 != t472) t464 t465 t472 t473 t477 t478) else (none))))) else (none))) = some r := H
  have A8 := Aside0.mk A80
  clear A80
  have HC9 := Aside0.mk H
  clear H
  go_enter Try.func11, Try.ntmps11
  go_upto_region 8 with (first | ((with_reducible refine gate_callee (f := 15) rfl ?_); refine goesL_ (some 14) rfl rfl Try.func15 (by kernel_rfl) rfl #[.slice A0 l0.length c0] rfl (by (try simp only [List.map_toArray, List.map_cons, List.map_nil]); first | done | rfl | (simp only [List.length_drop, List.length_take]; rfl)) ?_; (with_reducible refine (laws_lwBig.calls _ _ l0 false _ ?side1 ?side2 A2.out).mono ?_); (case side1 => repeat (first | exact HR0.out | (with_reducible refine Kd.C_alloc ?_ _) | (with_reducible refine Kd.C_drewN ?_ _) | (with_reducible refine Kd.C_drew ?_))); (case side2 => exact HC0.out); rintro e w' ⟨rfl, ⟨nd, rfl⟩⟩; refine ⟨_, rfl, ?_⟩) | ((with_reducible refine gate_callee (f := 60) rfl ?_); refine goesL_ (some 17) rfl rfl Try.func60 (by kernel_rfl) rfl #[.slice A0 l0.length c0] rfl (by (try simp only [List.map_toArray, List.map_cons, List.map_nil]); first | done | rfl | (simp only [List.length_drop, List.length_take]; rfl)) ?_; (with_reducible refine (spec_DrawBandNorms.calls k _ _ l0 t460 t461 _ ?side1 ?side2 A4.out).mono ?_); (case side1 => repeat (first | exact HR0.out | (with_reducible refine Kd.C_alloc ?_ _) | (with_reducible refine Kd.C_drewN ?_ _) | (with_reducible refine Kd.C_drew ?_))); (case side2 => exact HC0.out); rintro e w10 ⟨v462, rfl, ho0, hb⟩; refine ⟨_, rfl, ?_⟩; have n0_ := Aside0.mk (Kd.R_lower ho0 (below_size (by repeat (first | (with_reducible first | exact HB.out | apply below_alloc | apply pw_below_drewN | apply below_drew1) | exact HB.out)))); have n1_ := Aside0.mk (below_step (by repeat (first | (with_reducible first | exact HB.out | apply below_alloc | apply pw_below_drewN | apply below_drew1) | exact HB.out)) hb); clear HB; have HO463 := n0_; have HB := n1_; clear n0_ n1_; (try clear hb); (try clear hb2); (try clear hk); (try clear hi); (try clear ho0); obtain ⟨Ao11, co11, eo11⟩ := Kd.R_slice HO463.out; subst eo11) | ((with_reducible refine gate_callee (f := 26) rfl ?_); refine goesL_ (some 22) rfl rfl Try.func26 (by kernel_rfl) rfl #[.int .i64 t460, .slice Ao11 t461.length co11] rfl (by (try simp only [List.map_toArray, List.map_cons, List.map_nil]); first | done | rfl | (simp only [List.length_drop, List.length_take]; rfl)) ?_; (with_reducible refine (impl_BandNorms.calls k t460 _ _ t461 t464 t465 _ ?side1 ?side2 A5.out).mono ?_); (case side1 => repeat (first | exact (Kd.R_reads' HO463.out).2.2 | (with_reducible refine Kd.C_alloc ?_ _) | (with_reducible refine Kd.C_drewN ?_ _) | (with_reducible refine Kd.C_drew ?_))); (case side2 => exact (Kd.R_reads' HO463.out).2.1); rintro e w12 ⟨v466, rfl, ho0, hb⟩; refine ⟨_, rfl, ?_⟩; have n0_ := Aside0.mk (Kd.R_elder' (by (with_reducible repeat (first | apply Kd.R_alloc | apply Kd.R_drewN | apply Kd.R_drew)); exact HO463.out) (Kd.R_base ho0) hb); have n1_ := Aside0.mk (Kd.R_lower (Kd.R_new' ho0 (Kd.R_lt (by (with_reducible repeat (first | apply Kd.R_alloc | apply Kd.R_drewN | apply Kd.R_drew)); exact HO463.out))) (below_size (by repeat (first | (with_reducible first | exact HB.out | apply below_alloc | apply pw_below_drewN | apply below_drew1) | exact HB.out)))); have n2_ := Aside0.mk (below_step (by repeat (first | (with_reducible first | exact HB.out | apply below_alloc | apply pw_below_drewN | apply below_drew1) | exact HB.out)) hb); clear HO463; clear HB; have HO463 := n0_; have HO467 := n1_; have HB := n2_; clear n0_ n1_ n2_; (try clear hb); (try clear hb2); (try clear hk); (try clear hi); (try clear ho0)) | ((with_reducible refine gate_dst (N := 5) rfl ?_); (try (refine gate_guard (by rfl) ?_; dsimp only)); refine box_event ?hg (N := 5) ?hd (cs := #[.int .i64 0, .slice none 0 0]) (t := 28) ?hr ?_; (case hd => rfl); (case hg => rfl); (case hr => first | (go_simp; done) | (go_simp; rfl)); intro gb468 hg w13 hbox hb; have n0_ := Aside0.mk (Kd.R_below (by (with_reducible repeat (first | apply Kd.R_alloc | apply Kd.R_drewN | apply Kd.R_drew)); exact HO463.out) hb); have n1_ := Aside0.mk (Kd.R_below (by (with_reducible repeat (first | apply Kd.R_alloc | apply Kd.R_drewN | apply Kd.R_drew)); exact HO467.out) hb); have n2_ := Aside0.mk (below_step (by repeat (first | (with_reducible first | exact HB.out | apply below_alloc | apply pw_below_drewN | apply below_drew1) | exact HB.out)) hb); have n3_ := Aside0.mk (hbox); have n4_ := Aside0.mk ((by rw [hg]; exact (below_size (by repeat (first | (with_reducible first | exact HB.out | apply below_alloc | apply pw_below_drewN | apply below_drew1) | exact HB.out))) : w.heap.size ≤ gb468)); have n5_ := Aside0.mk ((by rw [hg]; exact (below_size (by repeat (first | (with_reducible first | exact HB.out | apply below_alloc | apply pw_below_drewN | apply below_drew1) | exact HB.out))) : w.heap.size ≤ gb468)); clear HO463; clear HO467; clear HB; have HO463 := n0_; have HO467 := n1_; have HB := n2_; have BK468 := n3_; have GW468 := n4_; have GE468 := n5_; clear n0_ n1_ n2_ n3_ n4_ n5_; clear hb hbox hg; have hcz14_0 : w13.cell? ⟨gb468, 0, none⟩ = some (.int .i64 0) := (blk_cell BK468.out 0).trans rfl; have hcz14_1 : w13.cell? ⟨gb468, 1, none⟩ = some (.slice none 0 0) := (blk_cell BK468.out 1).trans rfl; have hfz14_0 := blk_frozen BK468.out 0; have hfz14_1 := blk_frozen BK468.out 1; obtain ⟨Ao15, co15, eo15⟩ := Kd.R_slice HO467.out; subst eo15) | ((with_reducible refine gate_callee (f := 61) rfl ?_); refine goesL_ (some 25) rfl rfl Try.func61 (by kernel_rfl) rfl #[.int .i64 t460, .slice Ao11 t461.length co11] rfl (by (try simp only [List.map_toArray, List.map_cons, List.map_nil]); first | done | rfl | (simp only [List.length_drop, List.length_take]; rfl)) ?_; (with_reducible refine (impl_MaskOf.calls k t460 _ _ t461 t469 t470 _ ?side1 ?side2 A6.out).mono ?_); (case side1 => refine (Kd.R_reads' (e := 2) (base := w.heap.size) (ok := fun k_ => (True ∧ some k_ ≠ (.slice Ao15 t465.length co15 : Value).ownBlock)) (n := t461.length) (c := co11) ?_).2.2; exact (by (with_reducible repeat (first | apply Kd.R_alloc | apply Kd.R_drewN | apply Kd.R_drew)); exact (Kd.R_mono (Kd.R_far (p := ⟨gb468, 1, none⟩) (Kd.R_far (p := ⟨gb468, 0, none⟩) (Kd.R_types HO463.out BK468.out (by decide)) (fun _ hk => hk.2) (.int .i64 t464)) (fun _ hk => hk.2) (.slice Ao15 t465.length co15)) (fun _ h_ => h_.1)))); (case side2 => exact (Kd.R_reads' HO463.out).2.1); rintro e w16 ⟨rfl, hb⟩; refine ⟨_, rfl, ?_⟩; have n0_ := Aside0.mk (Kd.R_below (by (with_reducible repeat (first | apply Kd.R_alloc | apply Kd.R_drewN | apply Kd.R_drew)); exact (Kd.R_mono (Kd.R_far (p := ⟨gb468, 1, none⟩) (Kd.R_far (p := ⟨gb468, 0, none⟩) (Kd.R_types HO463.out BK468.out (by decide)) (fun _ hk => hk.2) (.int .i64 t464)) (fun _ hk => hk.2) (.slice Ao15 t465.length co15)) (fun _ h_ => h_.1))) hb); have n1_ := Aside0.mk (Kd.R_below (by (with_reducible repeat (first | apply Kd.R_alloc | apply Kd.R_drewN | apply Kd.R_drew)); exact (Kd.R_mono (Kd.R_far (p := ⟨gb468, 1, none⟩) (Kd.R_far (p := ⟨gb468, 0, none⟩) (Kd.R_types HO467.out BK468.out (by decide)) (fun _ hk => hk.2) (.int .i64 t464)) (fun _ hk => hk.2) (.slice Ao15 t465.length co15)) (fun _ h_ => h_.1))) hb); have n2_ := Aside0.mk (blk_below (g := gb468) (o := .cells #[.int .i64 t464, .slice Ao15 t465.length co15] 28 (0, 0)) (by (with_reducible repeat (first | refine blk_drewN ?_ _ | refine blk_drew ?_ | refine blk_alloc ?_ _)); refine blk_put (cs := #[.int .i64 t464, .slice none 0 0]) ?_ 1 _ rfl; (with_reducible repeat (first | refine blk_drewN ?_ _ | refine blk_drew ?_ | refine blk_alloc ?_ _)); refine blk_put (cs := #[.int .i64 0, .slice none 0 0]) ?_ 0 _ rfl; (with_reducible repeat (first | refine blk_drewN ?_ _ | refine blk_drew ?_ | refine blk_alloc ?_ _)); exact BK468.out) hb); have n3_ := Aside0.mk (below_step (by repeat (first | (with_reducible first | exact HB.out | apply below_alloc | apply pw_below_drewN | apply below_drew1 | refine below_set ?_ GE468.out) | exact HB.out)) hb); clear HO463; clear HO467; clear BK468; clear HB; have HO463 := n0_; have HO467 := n1_; have BK468 := n2_; have HB := n3_; clear n0_ n1_ n2_ n3_; (try clear hb); (try clear hb2); (try clear hk); (try clear hi)) | ((with_reducible refine gate_dst (N := 6) rfl ?_); (try (refine gate_guard (by rfl) ?_; dsimp only)); refine box_event ?hg (N := 6) ?hd (cs := #[.int .i64 0, .int .i64 0]) (t := 31) ?hr ?_; (case hd => rfl); (case hg => rfl); (case hr => first | (go_simp; done) | (go_simp; rfl)); intro gb471 hg w17 hbox hb; have n0_ := Aside0.mk (Kd.R_below (by (with_reducible repeat (first | apply Kd.R_alloc | apply Kd.R_drewN | apply Kd.R_drew)); exact HO463.out) hb); have n1_ := Aside0.mk (Kd.R_below (by (with_reducible repeat (first | apply Kd.R_alloc | apply Kd.R_drewN | apply Kd.R_drew)); exact HO467.out) hb); have n2_ := Aside0.mk (blk_below (g := gb468) (o := .cells #[.int .i64 t464, .slice Ao15 t465.length co15] 28 (0, 0)) (by (with_reducible repeat (first | refine blk_drewN ?_ _ | refine blk_drew ?_ | refine blk_alloc ?_ _)); exact BK468.out) hb); have n3_ := Aside0.mk (below_step (by repeat (first | (with_reducible first | exact HB.out | apply below_alloc | apply pw_below_drewN | apply below_drew1 | refine below_set ?_ GE468.out) | exact HB.out)) hb); have n4_ := Aside0.mk (hbox); have n5_ := Aside0.mk ((by rw [hg]; exact (below_size (by repeat (first | (with_reducible first | exact HB.out | apply below_alloc | apply pw_below_drewN | apply below_drew1 | refine below_set ?_ GE468.out) | exact HB.out))) : w.heap.size ≤ gb471)); have n6_ := Aside0.mk ((by rw [hg]; exact (below_size (by repeat (first | (with_reducible first | exact HB.out | apply below_alloc | apply pw_below_drewN | apply below_drew1 | refine below_set ?_ GE468.out) | exact HB.out))) : w.heap.size ≤ gb471)); have n7_ := Aside0.mk ((by rw [hg]; exact Nat.ne_of_lt (blk_lt (g := gb468) (o := .cells #[.int .i64 t464, .slice Ao15 t465.length co15] 28 (0, 0)) (by (with_reducible repeat (first | refine blk_drewN ?_ _ | refine blk_drew ?_ | refine blk_alloc ?_ _)); exact BK468.out)) : gb468 ≠ gb471)); have n8_ := Aside0.mk ((by rw [hg]; exact Nat.ne_of_gt (blk_lt (g := gb468) (o := .cells #[.int .i64 t464, .slice Ao15 t465.length co15] 28 (0, 0)) (by (with_reducible repeat (first | refine blk_drewN ?_ _ | refine blk_drew ?_ | refine blk_alloc ?_ _)); exact BK468.out)) : gb471 ≠ gb468)); clear HO463; clear HO467; clear BK468; clear HB; have HO463 := n0_; have HO467 := n1_; have BK468 := n2_; have HB := n3_; have BK471 := n4_; have GW471 := n5_; have GE471 := n6_; have NB468_471 := n7_; have NB471_468 := n8_; clear n0_ n1_ n2_ n3_ n4_ n5_ n6_ n7_ n8_; clear hb hbox hg; have hnb18 := NB471_468.out; have hnc18 := NB468_471.out; have hcz19_0 : w17.cell? ⟨gb471, 0, none⟩ = some (.int .i64 0) := (blk_cell BK471.out 0).trans rfl; have hcz19_1 : w17.cell? ⟨gb471, 1, none⟩ = some (.int .i64 0) := (blk_cell BK471.out 1).trans rfl; have hfz19_0 := blk_frozen BK471.out 0; have hfz19_1 := blk_frozen BK471.out 1) | ((with_reducible refine gate_callee (f := 62) rfl ?_); refine goesL_ (some 27) rfl rfl Try.func62 (by kernel_rfl) rfl #[.int .i64 t460] rfl (by (try simp only [List.map_toArray, List.map_cons, List.map_nil]); first | done | rfl | (simp only [List.length_drop, List.length_take]; rfl)) ?_; (with_reducible refine (impl_BandsOf.calls t460 t472 t473 _ A7.out).mono ?_); rintro e w20 ⟨v474, rfl, ho0, hb⟩; refine ⟨_, rfl, ?_⟩; have n0_ := Aside0.mk (Kd.R_below (by (with_reducible repeat (first | apply Kd.R_alloc | apply Kd.R_drewN | apply Kd.R_drew)); exact (Kd.R_mono (Kd.R_far (p := ⟨gb471, 1, none⟩) (Kd.R_far (p := ⟨gb471, 0, none⟩) (Kd.R_types HO463.out BK471.out (by decide)) (fun _ hk => hk.2) (.int .i64 t469)) (fun _ hk => hk.2) (.int .i64 t470)) (fun _ h_ => h_.1))) hb); have n1_ := Aside0.mk (Kd.R_below (by (with_reducible repeat (first | apply Kd.R_alloc | apply Kd.R_drewN | apply Kd.R_drew)); exact (Kd.R_mono (Kd.R_far (p := ⟨gb471, 1, none⟩) (Kd.R_far (p := ⟨gb471, 0, none⟩) (Kd.R_types HO467.out BK471.out (by decide)) (fun _ hk => hk.2) (.int .i64 t469)) (fun _ hk => hk.2) (.int .i64 t470)) (fun _ h_ => h_.1))) hb); have n2_ := Aside0.mk (Kd.R_lower ho0 (below_size (by repeat (first | (with_reducible first | exact HB.out | apply below_alloc | apply pw_below_drewN | apply below_drew1 | refine below_set ?_ GE468.out | refine below_set ?_ GE471.out) | exact HB.out)))); have n3_ := Aside0.mk (blk_below (g := gb468) (o := .cells #[.int .i64 t464, .slice Ao15 t465.length co15] 28 (0, 0)) (by (with_reducible repeat (first | refine blk_drewN ?_ _ | refine blk_drew ?_ | refine blk_alloc ?_ _)); refine blk_far ?_ NB468_471.out _; (with_reducible repeat (first | refine blk_drewN ?_ _ | refine blk_drew ?_ | refine blk_alloc ?_ _)); refine blk_far ?_ NB468_471.out _; (with_reducible repeat (first | refine blk_drewN ?_ _ | refine blk_drew ?_ | refine blk_alloc ?_ _)); exact BK468.out) hb); have n4_ := Aside0.mk (blk_below (g := gb471) (o := .cells #[.int .i64 t469, .int .i64 t470] 31 (0, 0)) (by (with_reducible repeat (first | refine blk_drewN ?_ _ | refine blk_drew ?_ | refine blk_alloc ?_ _)); refine blk_put (cs := #[.int .i64 t469, .int .i64 0]) ?_ 1 _ rfl; (with_reducible repeat (first | refine blk_drewN ?_ _ | refine blk_drew ?_ | refine blk_alloc ?_ _)); refine blk_put (cs := #[.int .i64 0, .int .i64 0]) ?_ 0 _ rfl; (with_reducible repeat (first | refine blk_drewN ?_ _ | refine blk_drew ?_ | refine blk_alloc ?_ _)); exact BK471.out) hb); have n5_ := Aside0.mk (below_step (by repeat (first | (with_reducible first | exact HB.out | apply below_alloc | apply pw_below_drewN | apply below_drew1 | refine below_set ?_ GE468.out | refine below_set ?_ GE471.out) | exact HB.out)) hb); clear HO463; clear HO467; clear BK468; clear BK471; clear HB; have HO463 := n0_; have HO467 := n1_; have HO475 := n2_; have BK468 := n3_; have BK471 := n4_; have HB := n5_; clear n0_ n1_ n2_ n3_ n4_ n5_; (try clear hb); (try clear hb2); (try clear hk); (try clear hi); (try clear ho0)) | ((with_reducible refine gate_dst (N := 7) rfl ?_); (try (refine gate_guard (by rfl) ?_; dsimp only)); refine box_event ?hg (N := 7) ?hd (cs := #[.int .i64 0, .slice none 0 0]) (t := 79) ?hr ?_; (case hd => rfl); (case hg => rfl); (case hr => first | (go_simp; done) | (go_simp; rfl)); intro gb476 hg w21 hbox hb; have n0_ := Aside0.mk (Kd.R_below (by (with_reducible repeat (first | apply Kd.R_alloc | apply Kd.R_drewN | apply Kd.R_drew)); exact HO463.out) hb); have n1_ := Aside0.mk (Kd.R_below (by (with_reducible repeat (first | apply Kd.R_alloc | apply Kd.R_drewN | apply Kd.R_drew)); exact HO467.out) hb); have n2_ := Aside0.mk (Kd.R_below (by (with_reducible repeat (first | apply Kd.R_alloc | apply Kd.R_drewN | apply Kd.R_drew)); exact HO475.out) hb); have n3_ := Aside0.mk (blk_below (g := gb468) (o := .cells #[.int .i64 t464, .slice Ao15 t465.length co15] 28 (0, 0)) (by (with_reducible repeat (first | refine blk_drewN ?_ _ | refine blk_drew ?_ | refine blk_alloc ?_ _)); exact BK468.out) hb); have n4_ := Aside0.mk (blk_below (g := gb471) (o := .cells #[.int .i64 t469, .int .i64 t470] 31 (0, 0)) (by (with_reducible repeat (first | refine blk_drewN ?_ _ | refine blk_drew ?_ | refine blk_alloc ?_ _)); exact BK471.out) hb); have n5_ := Aside0.mk (below_step (by repeat (first | (with_reducible first | exact HB.out | apply below_alloc | apply pw_below_drewN | apply below_drew1 | refine below_set ?_ GE468.out | refine below_set ?_ GE471.out) | exact HB.out)) hb); have n6_ := Aside0.mk (hbox); have n7_ := Aside0.mk ((by rw [hg]; exact (below_size (by repeat (first | (with_reducible first | exact HB.out | apply below_alloc | apply pw_below_drewN | apply below_drew1 | refine below_set ?_ GE468.out | refine below_set ?_ GE471.out) | exact HB.out))) : w.heap.size ≤ gb476)); have n8_ := Aside0.mk ((by rw [hg]; exact (below_size (by repeat (first | (with_reducible first | exact HB.out | apply below_alloc | apply pw_below_drewN | apply below_drew1 | refine below_set ?_ GE468.out | refine below_set ?_ GE471.out) | exact HB.out))) : w.heap.size ≤ gb476)); have n9_ := Aside0.mk ((by rw [hg]; exact Nat.ne_of_lt (blk_lt (g := gb468) (o := .cells #[.int .i64 t464, .slice Ao15 t465.length co15] 28 (0, 0)) (by (with_reducible repeat (first | refine blk_drewN ?_ _ | refine blk_drew ?_ | refine blk_alloc ?_ _)); exact BK468.out)) : gb468 ≠ gb476)); have n10_ := Aside0.mk ((by rw [hg]; exact Nat.ne_of_gt (blk_lt (g := gb468) (o := .cells #[.int .i64 t464, .slice Ao15 t465.length co15] 28 (0, 0)) (by (with_reducible repeat (first | refine blk_drewN ?_ _ | refine blk_drew ?_ | refine blk_alloc ?_ _)); exact BK468.out)) : gb476 ≠ gb468)); have n11_ := Aside0.mk ((by rw [hg]; exact Nat.ne_of_lt (blk_lt (g := gb471) (o := .cells #[.int .i64 t469, .int .i64 t470] 31 (0, 0)) (by (with_reducible repeat (first | refine blk_drewN ?_ _ | refine blk_drew ?_ | refine blk_alloc ?_ _)); exact BK471.out)) : gb471 ≠ gb476)); have n12_ := Aside0.mk ((by rw [hg]; exact Nat.ne_of_gt (blk_lt (g := gb471) (o := .cells #[.int .i64 t469, .int .i64 t470] 31 (0, 0)) (by (with_reducible repeat (first | refine blk_drewN ?_ _ | refine blk_drew ?_ | refine blk_alloc ?_ _)); exact BK471.out)) : gb476 ≠ gb471)); clear HO463; clear HO467; clear HO475; clear BK468; clear BK471; clear HB; have HO463 := n0_; have HO467 := n1_; have HO475 := n2_; have BK468 := n3_; have BK471 := n4_; have HB := n5_; have BK476 := n6_; have GW476 := n7_; have GE476 := n8_; have NB468_476 := n9_; have NB476_468 := n10_; have NB471_476 := n11_; have NB476_471 := n12_; clear n0_ n1_ n2_ n3_ n4_ n5_ n6_ n7_ n8_ n9_ n10_ n11_ n12_; clear hb hbox hg; have hnb22 := NB476_468.out; have hnc22 := NB468_476.out; have hnb23 := NB476_471.out; have hnc23 := NB471_476.out; have hcz24_0 : w21.cell? ⟨gb476, 0, none⟩ = some (.int .i64 0) := (blk_cell BK476.out 0).trans rfl; have hcz24_1 : w21.cell? ⟨gb476, 1, none⟩ = some (.slice none 0 0) := (blk_cell BK476.out 1).trans rfl; have hfz24_0 := blk_frozen BK476.out 0; have hfz24_1 := blk_frozen BK476.out 1; obtain ⟨Ao25, co25, eo25⟩ := Kd.R_slice HO475.out; subst eo25) | ((with_reducible refine gate_callee (f := 63) rfl ?_); refine goesL_ (some 29) rfl rfl Try.func63 (by kernel_rfl) rfl #[.int .i64 t460] rfl (by (try simp only [List.map_toArray, List.map_cons, List.map_nil]); first | done | rfl | (simp only [List.length_drop, List.length_take]; rfl)) ?_; (with_reducible refine (impl_LowCount.calls t460 t477 t478 _ A8.out).mono ?_); rintro e w26 ⟨rfl, hb⟩; refine ⟨_, rfl, ?_⟩; have n0_ := Aside0.mk (Kd.R_below (by (with_reducible repeat (first | apply Kd.R_alloc | apply Kd.R_drewN | apply Kd.R_drew)); exact (Kd.R_mono (Kd.R_far (p := ⟨gb476, 1, none⟩) (Kd.R_far (p := ⟨gb476, 0, none⟩) (Kd.R_types HO463.out BK476.out (by decide)) (fun _ hk => hk.2) (.int .i64 t472)) (fun _ hk => hk.2) (.slice Ao25 t473.length co25)) (fun _ h_ => h_.1))) hb); have n1_ := Aside0.mk (Kd.R_below (by (with_reducible repeat (first | apply Kd.R_alloc | apply Kd.R_drewN | apply Kd.R_drew)); exact (Kd.R_mono (Kd.R_far (p := ⟨gb476, 1, none⟩) (Kd.R_far (p := ⟨gb476, 0, none⟩) (Kd.R_types HO467.out BK476.out (by decide)) (fun _ hk => hk.2) (.int .i64 t472)) (fun _ hk => hk.2) (.slice Ao25 t473.length co25)) (fun _ h_ => h_.1))) hb); have n2_ := Aside0.mk (Kd.R_below (by (with_reducible repeat (first | apply Kd.R_alloc | apply Kd.R_drewN | apply Kd.R_drew)); exact (Kd.R_mono (Kd.R_far (p := ⟨gb476, 1, none⟩) (Kd.R_far (p := ⟨gb476, 0, none⟩) (Kd.R_types HO475.out BK476.out (by decide)) (fun _ hk => hk.2) (.int .i64 t472)) (fun _ hk => hk.2) (.slice Ao25 t473.length co25)) (fun _ h_ => h_.1))) hb); have n3_ := Aside0.mk (blk_below (g := gb468) (o := .cells #[.int .i64 t464, .slice Ao15 t465.length co15] 28 (0, 0)) (by (with_reducible repeat (first | refine blk_drewN ?_ _ | refine blk_drew ?_ | refine blk_alloc ?_ _)); refine blk_far ?_ NB468_476.out _; (with_reducible repeat (first | refine blk_drewN ?_ _ | refine blk_drew ?_ | refine blk_alloc ?_ _)); refine blk_far ?_ NB468_476.out _; (with_reducible repeat (first | refine blk_drewN ?_ _ | refine blk_drew ?_ | refine blk_alloc ?_ _)); exact BK468.out) hb); have n4_ := Aside0.mk (blk_below (g := gb471) (o := .cells #[.int .i64 t469, .int .i64 t470] 31 (0, 0)) (by (with_reducible repeat (first | refine blk_drewN ?_ _ | refine blk_drew ?_ | refine blk_alloc ?_ _)); refine blk_far ?_ NB471_476.out _; (with_reducible repeat (first | refine blk_drewN ?_ _ | refine blk_drew ?_ | refine blk_alloc ?_ _)); refine blk_far ?_ NB471_476.out _; (with_reducible repeat (first | refine blk_drewN ?_ _ | refine blk_drew ?_ | refine blk_alloc ?_ _)); exact BK471.out) hb); have n5_ := Aside0.mk (blk_below (g := gb476) (o := .cells #[.int .i64 t472, .slice Ao25 t473.length co25] 79 (0, 0)) (by (with_reducible repeat (first | refine blk_drewN ?_ _ | refine blk_drew ?_ | refine blk_alloc ?_ _)); refine blk_put (cs := #[.int .i64 t472, .slice none 0 0]) ?_ 1 _ rfl; (with_reducible repeat (first | refine blk_drewN ?_ _ | refine blk_drew ?_ | refine blk_alloc ?_ _)); refine blk_put (cs := #[.int .i64 0, .slice none 0 0]) ?_ 0 _ rfl; (with_reducible repeat (first | refine blk_drewN ?_ _ | refine blk_drew ?_ | refine blk_alloc ?_ _)); exact BK476.out) hb); have n6_ := Aside0.mk (below_step (by repeat (first | (with_reducible first | exact HB.out | apply below_alloc | apply pw_below_drewN | apply below_drew1 | refine below_set ?_ GE468.out | refine below_set ?_ GE471.out | refine below_set ?_ GE476.out) | exact HB.out)) hb); clear HO463; clear HO467; clear HO475; clear BK468; clear BK471; clear BK476; clear HB; have HO463 := n0_; have HO467 := n1_; have HO475 := n2_; have BK468 := n3_; have BK471 := n4_; have BK476 := n5_; have HB := n6_; clear n0_ n1_ n2_ n3_ n4_ n5_ n6_; (try clear hb); (try clear hb2); (try clear hk); (try clear hi)) | ((with_reducible refine gate_dst (N := 8) rfl ?_); (try (refine gate_guard (by rfl) ?_; dsimp only)); refine box_event ?hg (N := 8) ?hd (cs := #[.int .i64 0, .int .i64 0]) (t := 31) ?hr ?_; (case hd => rfl); (case hg => rfl); (case hr => first | (go_simp; done) | (go_simp; rfl)); intro gb479 hg w27 hbox hb; have n0_ := Aside0.mk (Kd.R_below (by (with_reducible repeat (first | apply Kd.R_alloc | apply Kd.R_drewN | apply Kd.R_drew)); exact HO463.out) hb); have n1_ := Aside0.mk (Kd.R_below (by (with_reducible repeat (first | apply Kd.R_alloc | apply Kd.R_drewN | apply Kd.R_drew)); exact HO467.out) hb); have n2_ := Aside0.mk (Kd.R_below (by (with_reducible repeat (first | apply Kd.R_alloc | apply Kd.R_drewN | apply Kd.R_drew)); exact HO475.out) hb); have n3_ := Aside0.mk (blk_below (g := gb468) (o := .cells #[.int .i64 t464, .slice Ao15 t465.length co15] 28 (0, 0)) (by (with_reducible repeat (first | refine blk_drewN ?_ _ | refine blk_drew ?_ | refine blk_alloc ?_ _)); exact BK468.out) hb); have n4_ := Aside0.mk (blk_below (g := gb471) (o := .cells #[.int .i64 t469, .int .i64 t470] 31 (0, 0)) (by (with_reducible repeat (first | refine blk_drewN ?_ _ | refine blk_drew ?_ | refine blk_alloc ?_ _)); exact BK471.out) hb); have n5_ := Aside0.mk (blk_below (g := gb476) (o := .cells #[.int .i64 t472, .slice Ao25 t473.length co25] 79 (0, 0)) (by (with_reducible repeat (first | refine blk_drewN ?_ _ | refine blk_drew ?_ | refine blk_alloc ?_ _)); exact BK476.out) hb); have n6_ := Aside0.mk (below_step (by repeat (first | (with_reducible first | exact HB.out | apply below_alloc | apply pw_below_drewN | apply below_drew1 | refine below_set ?_ GE468.out | refine below_set ?_ GE471.out | refine below_set ?_ GE476.out) | exact HB.out)) hb); have n7_ := Aside0.mk (hbox); have n8_ := Aside0.mk ((by rw [hg]; exact (below_size (by repeat (first | (with_reducible first | exact HB.out | apply below_alloc | apply pw_below_drewN | apply below_drew1 | refine below_set ?_ GE468.out | refine below_set ?_ GE471.out | refine below_set ?_ GE476.out) | exact HB.out))) : w.heap.size ≤ gb479)); have n9_ := Aside0.mk ((by rw [hg]; exact (below_size (by repeat (first | (with_reducible first | exact HB.out | apply below_alloc | apply pw_below_drewN | apply below_drew1 | refine below_set ?_ GE468.out | refine below_set ?_ GE471.out | refine below_set ?_ GE476.out) | exact HB.out))) : w.heap.size ≤ gb479)); have n10_ := Aside0.mk ((by rw [hg]; exact Nat.ne_of_lt (blk_lt (g := gb468) (o := .cells #[.int .i64 t464, .slice Ao15 t465.length co15] 28 (0, 0)) (by (with_reducible repeat (first | refine blk_drewN ?_ _ | refine blk_drew ?_ | refine blk_alloc ?_ _)); exact BK468.out)) : gb468 ≠ gb479)); have n11_ := Aside0.mk ((by rw [hg]; exact Nat.ne_of_gt (blk_lt (g := gb468) (o := .cells #[.int .i64 t464, .slice Ao15 t465.length co15] 28 (0, 0)) (by (with_reducible repeat (first | refine blk_drewN ?_ _ | refine blk_drew ?_ | refine blk_alloc ?_ _)); exact BK468.out)) : gb479 ≠ gb468)); have n12_ := Aside0.mk ((by rw [hg]; exact Nat.ne_of_lt (blk_lt (g := gb471) (o := .cells #[.int .i64 t469, .int .i64 t470] 31 (0, 0)) (by (with_reducible repeat (first | refine blk_drewN ?_ _ | refine blk_drew ?_ | refine blk_alloc ?_ _)); exact BK471.out)) : gb471 ≠ gb479)); have n13_ := Aside0.mk ((by rw [hg]; exact Nat.ne_of_gt (blk_lt (g := gb471) (o := .cells #[.int .i64 t469, .int .i64 t470] 31 (0, 0)) (by (with_reducible repeat (first | refine blk_drewN ?_ _ | refine blk_drew ?_ | refine blk_alloc ?_ _)); exact BK471.out)) : gb479 ≠ gb471)); have n14_ := Aside0.mk ((by rw [hg]; exact Nat.ne_of_lt (blk_lt (g := gb476) (o := .cells #[.int .i64 t472, .slice Ao25 t473.length co25] 79 (0, 0)) (by (with_reducible repeat (first | refine blk_drewN ?_ _ | refine blk_drew ?_ | refine blk_alloc ?_ _)); exact BK476.out)) : gb476 ≠ gb479)); have n15_ := Aside0.mk ((by rw [hg]; exact Nat.ne_of_gt (blk_lt (g := gb476) (o := .cells #[.int .i64 t472, .slice Ao25 t473.length co25] 79 (0, 0)) (by (with_reducible repeat (first | refine blk_drewN ?_ _ | refine blk_drew ?_ | refine blk_alloc ?_ _)); exact BK476.out)) : gb479 ≠ gb476)); clear HO463; clear HO467; clear HO475; clear BK468; clear BK471; clear BK476; clear HB; have HO463 := n0_; have HO467 := n1_; have HO475 := n2_; have BK468 := n3_; have BK471 := n4_; have BK476 := n5_; have HB := n6_; have BK479 := n7_; have GW479 := n8_; have GE479 := n9_; have NB468_479 := n10_; have NB479_468 := n11_; have NB471_479 := n12_; have NB479_471 := n13_; have NB476_479 := n14_; have NB479_476 := n15_; clear n0_ n1_ n2_ n3_ n4_ n5_ n6_ n7_ n8_ n9_ n10_ n11_ n12_ n13_ n14_ n15_; clear hb hbox hg; have hnb28 := NB479_468.out; have hnc28 := NB468_479.out; have hnb29 := NB479_471.out; have hnc29 := NB471_479.out; have hnb30 := NB479_476.out; have hnc30 := NB476_479.out; have hcz31_0 : w27.cell? ⟨gb479, 0, none⟩ = some (.int .i64 0) := (blk_cell BK479.out 0).trans rfl; have hcz31_1 : w27.cell? ⟨gb479, 1, none⟩ = some (.int .i64 0) := (blk_cell BK479.out 1).trans rfl; have hfz31_0 := blk_frozen BK479.out 0; have hfz31_1 := blk_frozen BK479.out 1))
  (try simp only [Act.put, List.setIfInBounds_toArray, List.set_cons_zero, List.set_cons_succ])
  go_cut [57] (fun v57 wc => ∃ (kq : Nat) (x57_8 : Bool), v57 = .bool x57_8 ∧ Aside0 (laws_FnBands.j0 kq t460 t461 x57_8 t464 t465 t472 t473 t477 t478 = some r) ∧ Aside0 (kq ≤ k) ∧ Aside0 (Kd.R (Kd.int .i64) 2 wc w.heap.size (fun k_ => some k_ ≠ ((.slice Ao15 t465.length co15) : Value).ownBlock) (.slice Ao11 t461.length co11) t461) ∧ Aside0 (Kd.R (Kd.int .i64) 2 wc w.heap.size (fun k_ => some k_ ≠ ((.slice Ao11 t461.length co11) : Value).ownBlock) (.slice Ao15 t465.length co15) t465) ∧ Aside0 (Kd.R k83 83 wc w.heap.size (fun _ => True) (.slice Ao25 t473.length co25) t473) ∧ Aside0 (wc.heap[gb468]? = some (.cells #[.int .i64 t464, (.slice Ao15 t465.length co15)] 28 (0, 0))) ∧ Aside0 (wc.heap[gb471]? = some (.cells #[.int .i64 t469, .int .i64 t470] 31 (0, 0))) ∧ Aside0 (wc.heap[gb476]? = some (.cells #[.int .i64 t472, (.slice Ao25 t473.length co25)] 79 (0, 0))) ∧ Aside0 (wc.heap[gb479]? = some (.cells #[.int .i64 t477, .int .i64 t478] 31 (0, 0))) ∧ Aside0 (Below w.heap.size w wc))
  case first =>
   have H := HC9.out
   clear HC9
   replace H := Option.bind_eq_some_iff.mp H
   obtain ⟨⟨t480, t481⟩, A320, H⟩ := H
   replace H : (if t464 = t480 then ((spec_MaskOf.f k t460 t461).bind fun bt484 => (if (!(t469 == bt484.1) || (!(t470 == bt484.2))) = true then (none) else ((spec_SizeFault.f t460).bind fun t486 => (if t472 = t486 then (laws_FnBands.j0 k t460 t461 (t477 != t472) t464 t465 t472 t473 t477 t478) else (none))))) else (none)) = some r := H
   have A32 := Aside0.mk A320
   clear A320
   by_cases c33 : t464 = t480
   ·rw [if_pos c33] at H
    have c33b0 : (t464 == t480) = true := beq_iff_eq.mpr c33
    have c33b1 : (t464 != t480) = false := bne_eq_false_iff_eq.mpr c33
    clear c33
    (first | rw [c33b0] | (simp only [i64_w, i32_w]; rw [c33b0]) | skip)
    replace H := Option.bind_eq_some_iff.mp H
    obtain ⟨⟨t484, t485⟩, A340, H⟩ := H
    replace H : (if (!(t469 == t484) || (!(t470 == t485))) = true then (none) else ((spec_SizeFault.f t460).bind fun t486 => (if t472 = t486 then (laws_FnBands.j0 k t460 t461 (t477 != t472) t464 t465 t472 t473 t477 t478) else (none)))) = some r := H
    have A34 := Aside0.mk A340
    clear A340
    by_cases c35 : (!(t469 == t484) || (!(t470 == t485))) = true
    ·rw [if_pos c35] at H
     have c35b0 : (!(t469 == t484) || (!(t470 == t485))) = true := c35
     clear c35
     exact absurd H (by simp)
    ·rw [if_neg c35] at H
     have c35b0 : (!(t469 == t484) || (!(t470 == t485))) = false := by simpa using c35
     clear c35
     replace H := Option.bind_eq_some_iff.mp H
     obtain ⟨t486, A360, H⟩ := H
     replace H : (if t472 = t486 then (laws_FnBands.j0 k t460 t461 (t477 != t472) t464 t465 t472 t473 t477 t478) else (none)) = some r := H
     have A36 := Aside0.mk A360
     clear A360
     by_cases c37 : t472 = t486
     ·rw [if_pos c37] at H
      have c37b0 : (t472 == t486) = true := beq_iff_eq.mpr c37
      have c37b1 : (t472 != t486) = false := bne_eq_false_iff_eq.mpr c37
      clear c37
      have H' := Aside0.mk H
      clear H
      try go_wp2
      have n0_ : Aside0 (Kd.R (Kd.int .i64) 2 ((w27.setCell ⟨gb479, 0, none⟩ (.int .i64 t477)).setCell ⟨gb479, 1, none⟩ (.int .i64 t478)) w.heap.size (fun k_ => some k_ ≠ (.slice Ao15 t465.length co15 : Value).ownBlock) (.slice Ao11 t461.length co11) t461) := ⟨by (with_reducible repeat (first | apply Kd.R_alloc | apply Kd.R_drewN | apply Kd.R_drew)); exact Kd.R_mono (Kd.R_far (p := ⟨gb479, 1, none⟩) (Kd.R_far (p := ⟨gb479, 0, none⟩) (Kd.R_types HO463.out BK479.out (by decide)) (fun _ hk => hk.2) (.int .i64 t477)) (fun _ hk => hk.2) (.int .i64 t478)) (fun _ hk => hk.1.2)⟩
      have n1_ : Aside0 (Kd.R (Kd.int .i64) 2 ((w27.setCell ⟨gb479, 0, none⟩ (.int .i64 t477)).setCell ⟨gb479, 1, none⟩ (.int .i64 t478)) w.heap.size (fun k_ => some k_ ≠ (.slice Ao11 t461.length co11 : Value).ownBlock) (.slice Ao15 t465.length co15) t465) := ⟨by (with_reducible repeat (first | apply Kd.R_alloc | apply Kd.R_drewN | apply Kd.R_drew)); exact Kd.R_mono (Kd.R_far (p := ⟨gb479, 1, none⟩) (Kd.R_far (p := ⟨gb479, 0, none⟩) (Kd.R_types HO467.out BK479.out (by decide)) (fun _ hk => hk.2) (.int .i64 t477)) (fun _ hk => hk.2) (.int .i64 t478)) (fun _ hk => hk.1.2)⟩
      have n2_ : Aside0 (Kd.R k83 83 ((w27.setCell ⟨gb479, 0, none⟩ (.int .i64 t477)).setCell ⟨gb479, 1, none⟩ (.int .i64 t478)) w.heap.size (fun _ => True) (.slice Ao25 t473.length co25) t473) := ⟨by (with_reducible repeat (first | apply Kd.R_alloc | apply Kd.R_drewN | apply Kd.R_drew)); exact Kd.R_mono (Kd.R_far (p := ⟨gb479, 1, none⟩) (Kd.R_far (p := ⟨gb479, 0, none⟩) (Kd.R_types HO475.out BK479.out (by decide)) (fun _ hk => hk.2) (.int .i64 t477)) (fun _ hk => hk.2) (.int .i64 t478)) (fun _ hk => trivial)⟩
      have n3_ : Aside0 (((w27.setCell ⟨gb479, 0, none⟩ (.int .i64 t477)).setCell ⟨gb479, 1, none⟩ (.int .i64 t478)).heap[gb468]? = some (.cells #[.int .i64 t464, .slice Ao15 t465.length co15] 28 (0, 0))) := ⟨by (with_reducible repeat (first | refine blk_drewN ?_ _ | refine blk_drew ?_ | refine blk_alloc ?_ _)); refine blk_far ?_ NB468_479.out _; (with_reducible repeat (first | refine blk_drewN ?_ _ | refine blk_drew ?_ | refine blk_alloc ?_ _)); refine blk_far ?_ NB468_479.out _; (with_reducible repeat (first | refine blk_drewN ?_ _ | refine blk_drew ?_ | refine blk_alloc ?_ _)); exact BK468.out⟩
      have n4_ : Aside0 (((w27.setCell ⟨gb479, 0, none⟩ (.int .i64 t477)).setCell ⟨gb479, 1, none⟩ (.int .i64 t478)).heap[gb471]? = some (.cells #[.int .i64 t469, .int .i64 t470] 31 (0, 0))) := ⟨by (with_reducible repeat (first | refine blk_drewN ?_ _ | refine blk_drew ?_ | refine blk_alloc ?_ _)); refine blk_far ?_ NB471_479.out _; (with_reducible repeat (first | refine blk_drewN ?_ _ | refine blk_drew ?_ | refine blk_alloc ?_ _)); refine blk_far ?_ NB471_479.out _; (with_reducible repeat (first | refine blk_drewN ?_ _ | refine blk_drew ?_ | refine blk_alloc ?_ _)); exact BK471.out⟩
      have n5_ : Aside0 (((w27.setCell ⟨gb479, 0, none⟩ (.int .i64 t477)).setCell ⟨gb479, 1, none⟩ (.int .i64 t478)).heap[gb476]? = some (.cells #[.int .i64 t472, .slice Ao25 t473.length co25] 79 (0, 0))) := ⟨by (with_reducible repeat (first | refine blk_drewN ?_ _ | refine blk_drew ?_ | refine blk_alloc ?_ _)); refine blk_far ?_ NB476_479.out _; (with_reducible repeat (first | refine blk_drewN ?_ _ | refine blk_drew ?_ | refine blk_alloc ?_ _)); refine blk_far ?_ NB476_479.out _; (with_reducible repeat (first | refine blk_drewN ?_ _ | refine blk_drew ?_ | refine blk_alloc ?_ _)); exact BK476.out⟩
      have n6_ : Aside0 (((w27.setCell ⟨gb479, 0, none⟩ (.int .i64 t477)).setCell ⟨gb479, 1, none⟩ (.int .i64 t478)).heap[gb479]? = some (.cells #[.int .i64 t477, .int .i64 t478] 31 (0, 0))) := ⟨by (with_reducible repeat (first | refine blk_drewN ?_ _ | refine blk_drew ?_ | refine blk_alloc ?_ _)); refine blk_put (cs := #[.int .i64 t477, .int .i64 0]) ?_ 1 _ rfl; (with_reducible repeat (first | refine blk_drewN ?_ _ | refine blk_drew ?_ | refine blk_alloc ?_ _)); refine blk_put (cs := #[.int .i64 0, .int .i64 0]) ?_ 0 _ rfl; (with_reducible repeat (first | refine blk_drewN ?_ _ | refine blk_drew ?_ | refine blk_alloc ?_ _)); exact BK479.out⟩
      have n7_ : Aside0 (Below w.heap.size w ((w27.setCell ⟨gb479, 0, none⟩ (.int .i64 t477)).setCell ⟨gb479, 1, none⟩ (.int .i64 t478))) := ⟨by repeat (first | (with_reducible first | exact HB.out | apply below_alloc | apply pw_below_drewN | apply below_drew1 | refine below_set ?_ GE468.out | refine below_set ?_ GE471.out | refine below_set ?_ GE476.out | refine below_set ?_ GE479.out) | exact HB.out)⟩
      (try clear HO463)
      (try clear HO467)
      (try clear HO475)
      (try clear BK468)
      (try clear BK471)
      (try clear BK476)
      (try clear BK479)
      (try clear HB)
      generalize ((w27.setCell ⟨gb479, 0, none⟩ (.int .i64 t477)).setCell ⟨gb479, 1, none⟩ (.int .i64 t478)) = w38 at n0_ n1_ n2_ n3_ n4_ n5_ n6_ n7_ ⊢
      have HO463 := n0_
      have HO467 := n1_
      have HO475 := n2_
      have BK468 := n3_
      have BK471 := n4_
      have BK476 := n5_
      have BK479 := n6_
      have HB := n7_
      clear n0_ n1_ n2_ n3_ n4_ n5_ n6_ n7_
      have n0_ := Aside0.mk (Kd.R_drew HO463.out)
      have n1_ := Aside0.mk (Kd.R_drew HO467.out)
      have n2_ := Aside0.mk (Kd.R_drew HO475.out)
      have n3_ := Aside0.mk (blk_drew BK468.out)
      have n4_ := Aside0.mk (blk_drew BK471.out)
      have n5_ := Aside0.mk (blk_drew BK476.out)
      have n6_ := Aside0.mk (blk_drew BK479.out)
      have n7_ := Aside0.mk (below_drew1 HB.out)
      clear HO463
      clear HO467
      clear HO475
      clear BK468
      clear BK471
      clear BK476
      clear BK479
      clear HB
      have HO463 := n0_
      have HO467 := n1_
      have HO475 := n2_
      have BK468 := n3_
      have BK471 := n4_
      have BK476 := n5_
      have BK479 := n6_
      have HB := n7_
      clear n0_ n1_ n2_ n3_ n4_ n5_ n6_ n7_
      refine start_ (n := 28) (S := fun w' => w'.cell? ⟨gb468, 0, none⟩ = some (.int .i64 t464) ∧ w'.cell? ⟨gb468, 1, none⟩ = some (.slice Ao15 t465.length co15) ∧ w'.cell? ⟨gb471, 0, none⟩ = some (.int .i64 t469) ∧ w'.cell? ⟨gb471, 1, none⟩ = some (.int .i64 t470) ∧ w'.cell? ⟨gb476, 0, none⟩ = some (.int .i64 t472) ∧ w'.cell? ⟨gb476, 1, none⟩ = some (.slice Ao25 t473.length co25) ∧ w'.cell? ⟨gb479, 0, none⟩ = some (.int .i64 t477) ∧ w'.cell? ⟨gb479, 1, none⟩ = some (.int .i64 t478)) (ds := []) #[false, false, false, false, false, false, false, false, false, false, false, false, false, false, false, false, false, false, false, false, false, false, false, false, false, false, false, false] (by kernel_rfl) rfl rfl ⟨(blk_cell BK468.out 0).trans rfl, (blk_cell BK468.out 1).trans rfl, (blk_cell BK471.out 0).trans rfl, (blk_cell BK471.out 1).trans rfl, (blk_cell BK476.out 0).trans rfl, (blk_cell BK476.out 1).trans rfl, (blk_cell BK479.out 0).trans rfl, (blk_cell BK479.out 1).trans rfl⟩ (fun hHeld => ?_); refine with_tabW laws_FnBands.tab8 laws_FnBands.bits8 (fun HT_ HW_ => ?_)
      generalize w38.drew = w39 at HO463 HO467 HO475 BK468 BK471 BK476 BK479 HB hHeld ⊢
      refine pure_ (i := 0) (N := some 30) (v := ?_) (a' := ?_) #[true, false, false, false, false, false, false, false, false, false, false, false, false, false, false, false, false, false, false, false, false, false, false, false, false, false, false, false] rfl rfl (any_of HT_.out (by kernel_rfl)) (fun _ _ _ h => h) (Or.inl ⟨by rfl, ?_⟩) ?_ ?_
      rotate_left
      ·intro w'
       go_simp
       with_reducible rfl
      rotate_left
      ·simp only [Act.put, List.setIfInBounds_toArray, List.set_cons_zero, List.set_cons_succ, i64_w, i32_w]
       rfl
      refine pure_ (i := 2) (N := some 32) (v := ?_) (a' := ?_) #[true, false, true, false, false, false, false, false, false, false, false, false, false, false, false, false, false, false, false, false, false, false, false, false, false, false, false, false] rfl rfl (any_of HT_.out (by kernel_rfl)) (fun _ _ _ h => h) (Or.inl ⟨by rfl, ?_⟩) ?_ ?_
      rotate_left
      ·intro w'
       go_simp
       with_reducible rfl
      rotate_left
      ·simp only [Act.put, List.setIfInBounds_toArray, List.set_cons_zero, List.set_cons_succ, i64_w, i32_w]
       rfl
      refine pure_ (i := 3) (N := some 33) (v := ?_) (a' := ?_) #[true, false, true, true, false, false, false, false, false, false, false, false, false, false, false, false, false, false, false, false, false, false, false, false, false, false, false, false] rfl rfl (any_of HT_.out (by kernel_rfl)) (fun _ _ _ h => h) (Or.inl ⟨by rfl, ?_⟩) ?_ ?_
      rotate_left
      ·intro w'
       go_simp
       with_reducible rfl
      rotate_left
      ·simp only [Act.put, List.setIfInBounds_toArray, List.set_cons_zero, List.set_cons_succ, i64_w, i32_w]
       rfl
      refine take_ (i := 1) (N := some 31) (v := ?_) (a' := ?_) #[true, true, true, true, false, false, false, false, false, false, false, false, false, false, false, false, false, false, false, false, false, false, false, false, false, false, false, false] rfl rfl (take_ofW HT_.out HW_.out (by kernel_rfl)) (fun _ _ _ h => h) (Or.inl ⟨by rfl, ?_⟩) hHeld ?_ ?_
      rotate_left
      ·rintro w' ⟨s0, s1, s2, s3, s4, s5, s6, s7⟩
       go_simp
       with_reducible rfl
      rotate_left
      ·simp only [Act.put, List.setIfInBounds_toArray, List.set_cons_zero, List.set_cons_succ, i64_w, i32_w]
       rfl
      refine one_ (i := 4) (N := some 34) #[true, true, true, true, true, false, false, false, false, false, false, false, false, false, false, false, false, false, false, false, false, false, false, false, false, false, false, false] rfl rfl (one_of HT_.out (by kernel_rfl)) (by decide) (fun K hK => ?_)
      refine goes_ Try.func24 (by kernel_rfl) rfl #[.int .i64 t460, .slice Ao11 t461.length co11] (by rfl) rfl rfl (by (try simp only [List.map_toArray, List.map_cons, List.map_nil]); first | done | rfl | (simp only [List.length_drop, List.length_take]; rfl)) ?_
      with_reducible refine (spec_BandNorms.calls k t460 _ _ t461 t480 t481 _ ?side1 ?side2 A32.out).mono ?_
      (case side1 => repeat (first | exact (Kd.R_reads' HO463.out).2.2 | (with_reducible refine Kd.C_alloc ?_ _) | (with_reducible refine Kd.C_drewN ?_ _) | (with_reducible refine Kd.C_drew ?_)))
      (case side2 => exact (Kd.R_reads' HO463.out).2.1)
      rintro e w40 ⟨v482, rfl, ho0, hb⟩
      refine ⟨_, rfl, ?_⟩
      have n0_ := Aside0.mk (Kd.R_elder' (by (with_reducible repeat (first | apply Kd.R_alloc | apply Kd.R_drewN | apply Kd.R_drew)); exact HO463.out) (Kd.R_base ho0) hb)
      have n1_ := Aside0.mk (Kd.R_elder' (by (with_reducible repeat (first | apply Kd.R_alloc | apply Kd.R_drewN | apply Kd.R_drew)); exact HO467.out) (Kd.R_base ho0) hb)
      have n2_ := Aside0.mk (Kd.R_below (by (with_reducible repeat (first | apply Kd.R_alloc | apply Kd.R_drewN | apply Kd.R_drew)); exact HO475.out) hb)
      have n3_ := Aside0.mk (Kd.R_lower (Kd.R_new' (Kd.R_new' ho0 (Kd.R_lt (by (with_reducible repeat (first | apply Kd.R_alloc | apply Kd.R_drewN | apply Kd.R_drew)); exact HO463.out))) (Kd.R_lt (by (with_reducible repeat (first | apply Kd.R_alloc | apply Kd.R_drewN | apply Kd.R_drew)); exact HO467.out))) (below_size (by repeat (first | (with_reducible first | exact HB.out | apply below_alloc | apply pw_below_drewN | apply below_drew1 | refine below_set ?_ GE468.out | refine below_set ?_ GE471.out | refine below_set ?_ GE476.out | refine below_set ?_ GE479.out) | exact HB.out))))
      have n4_ := Aside0.mk (blk_below (g := gb468) (o := .cells #[.int .i64 t464, .slice Ao15 t465.length co15] 28 (0, 0)) (by (with_reducible repeat (first | refine blk_drewN ?_ _ | refine blk_drew ?_ | refine blk_alloc ?_ _)); exact BK468.out) hb)
      have n5_ := Aside0.mk (blk_below (g := gb471) (o := .cells #[.int .i64 t469, .int .i64 t470] 31 (0, 0)) (by (with_reducible repeat (first | refine blk_drewN ?_ _ | refine blk_drew ?_ | refine blk_alloc ?_ _)); exact BK471.out) hb)
      have n6_ := Aside0.mk (blk_below (g := gb476) (o := .cells #[.int .i64 t472, .slice Ao25 t473.length co25] 79 (0, 0)) (by (with_reducible repeat (first | refine blk_drewN ?_ _ | refine blk_drew ?_ | refine blk_alloc ?_ _)); exact BK476.out) hb)
      have n7_ := Aside0.mk (blk_below (g := gb479) (o := .cells #[.int .i64 t477, .int .i64 t478] 31 (0, 0)) (by (with_reducible repeat (first | refine blk_drewN ?_ _ | refine blk_drew ?_ | refine blk_alloc ?_ _)); exact BK479.out) hb)
      have n8_ := Aside0.mk (below_step (by repeat (first | (with_reducible first | exact HB.out | apply below_alloc | apply pw_below_drewN | apply below_drew1 | refine below_set ?_ GE468.out | refine below_set ?_ GE471.out | refine below_set ?_ GE476.out | refine below_set ?_ GE479.out) | exact HB.out)) hb)
      clear HO463
      clear HO467
      clear HO475
      clear BK468
      clear BK471
      clear BK476
      clear BK479
      clear HB
      have HO463 := n0_
      have HO467 := n1_
      have HO475 := n2_
      have HO483 := n3_
      have BK468 := n4_
      have BK471 := n5_
      have BK476 := n6_
      have BK479 := n7_
      have HB := n8_
      clear n0_ n1_ n2_ n3_ n4_ n5_ n6_ n7_ n8_
      (try clear hb)
      (try clear hb2)
      (try clear hk)
      (try clear hi)
      (try clear ho0)
      refine hK.out _ _ ⟨(blk_cell BK468.out 0).trans rfl, (blk_cell BK468.out 1).trans rfl, (blk_cell BK471.out 0).trans rfl, (blk_cell BK471.out 1).trans rfl, (blk_cell BK476.out 0).trans rfl, (blk_cell BK476.out 1).trans rfl, (blk_cell BK479.out 0).trans rfl, (blk_cell BK479.out 1).trans rfl⟩ (fun hHeld => ?_)
      clear hK K
      refine norm_ (a' := ?_) ?_ ?_
      rotate_left
      ·show Act.put _ (some 34) _ = _
       simp only [Act.put, List.setIfInBounds_toArray, List.set_cons_zero, List.set_cons_succ, i64_w, i32_w]
       rfl
      refine pure_ (i := 5) (N := some 35) (v := ?_) (a' := ?_) #[true, true, true, true, true, true, false, false, false, false, false, false, false, false, false, false, false, false, false, false, false, false, false, false, false, false, false, false] rfl rfl (any_of HT_.out (by kernel_rfl)) (fun _ _ _ h => h) (Or.inl ⟨by rfl, ?_⟩) ?_ ?_
      rotate_left
      ·intro w'
       go_simp
       with_reducible rfl
      rotate_left
      ·simp only [Act.put, List.setIfInBounds_toArray, List.set_cons_zero, List.set_cons_succ, i64_w, i32_w]
       rfl
      refine pure_ (i := 6) (N := some 36) (v := ?_) (a' := ?_) #[true, true, true, true, true, true, true, false, false, false, false, false, false, false, false, false, false, false, false, false, false, false, false, false, false, false, false, false] rfl rfl (any_of HT_.out (by kernel_rfl)) (fun _ _ _ h => h) (Or.inl ⟨by rfl, ?_⟩) ?_ ?_
      rotate_left
      ·intro w'
       go_simp
       with_reducible rfl
      rotate_left
      ·simp only [Act.put, List.setIfInBounds_toArray, List.set_cons_zero, List.set_cons_succ, i64_w, i32_w]
       rfl
      refine pure_ (i := 7) (N := some 37) (v := ?_) (a' := ?_) #[true, true, true, true, true, true, true, true, false, false, false, false, false, false, false, false, false, false, false, false, false, false, false, false, false, false, false, false] rfl rfl (any_of HT_.out (by kernel_rfl)) (fun _ _ _ h => h) (Or.inl ⟨by rfl, ?_⟩) ?_ ?_
      rotate_left
      ·intro w'
       go_simp
       with_reducible rfl
      rotate_left
      ·simp only [Act.put, List.setIfInBounds_toArray, List.set_cons_zero, List.set_cons_succ, i64_w, i32_w]
       rfl
      refine pure_ (i := 9) (N := some 39) (v := ?_) (a' := ?_) #[true, true, true, true, true, true, true, true, false, true, false, false, false, false, false, false, false, false, false, false, false, false, false, false, false, false, false, false] rfl rfl (any_of HT_.out (by kernel_rfl)) (fun _ _ _ h => h) (Or.inl ⟨by rfl, ?_⟩) ?_ ?_
      rotate_left
      ·intro w'
       go_simp
       with_reducible rfl
      rotate_left
      ·simp only [Act.put, List.setIfInBounds_toArray, List.set_cons_zero, List.set_cons_succ, i64_w, i32_w]
       rfl
      refine pure_ (i := 10) (N := some 40) (v := ?_) (a' := ?_) #[true, true, true, true, true, true, true, true, false, true, true, false, false, false, false, false, false, false, false, false, false, false, false, false, false, false, false, false] rfl rfl (any_of HT_.out (by kernel_rfl)) (fun _ _ _ h => h) (Or.inl ⟨by rfl, ?_⟩) ?_ ?_
      rotate_left
      ·intro w'
       go_simp
       with_reducible rfl
      rotate_left
      ·simp only [Act.put, List.setIfInBounds_toArray, List.set_cons_zero, List.set_cons_succ, i64_w, i32_w]
       rfl
      refine take_ (i := 8) (N := some 38) (v := ?_) (a' := ?_) #[true, true, true, true, true, true, true, true, true, true, true, false, false, false, false, false, false, false, false, false, false, false, false, false, false, false, false, false] rfl rfl (take_ofW HT_.out HW_.out (by kernel_rfl)) (fun _ _ _ h => h) (Or.inl ⟨by rfl, ?_⟩) hHeld ?_ ?_
      rotate_left
      ·rintro w' ⟨s0, s1, s2, s3, s4, s5, s6, s7⟩
       go_simp
       with_reducible rfl
      rotate_left
      ·simp only [Act.put, List.setIfInBounds_toArray, List.set_cons_zero, List.set_cons_succ, i64_w, i32_w]
       rfl
      refine one_ (i := 11) (N := some 41) #[true, true, true, true, true, true, true, true, true, true, true, true, false, false, false, false, false, false, false, false, false, false, false, false, false, false, false, false] rfl rfl (one_of HT_.out (by kernel_rfl)) (by decide) (fun K hK => ?_)
      refine goes_ Try.func64 (by kernel_rfl) rfl #[.int .i64 t460, .slice Ao11 t461.length co11] (by rfl) rfl rfl (by (try simp only [List.map_toArray, List.map_cons, List.map_nil]); first | done | rfl | (simp only [List.length_drop, List.length_take]; rfl)) ?_
      with_reducible refine (spec_MaskOf.calls k t460 _ _ t461 t484 t485 _ ?side1 ?side2 A34.out).mono ?_
      (case side1 => repeat (first | exact (Kd.R_reads' HO463.out).2.2 | (with_reducible refine Kd.C_alloc ?_ _) | (with_reducible refine Kd.C_drewN ?_ _) | (with_reducible refine Kd.C_drew ?_)))
      (case side2 => exact (Kd.R_reads' HO463.out).2.1)
      rintro e w41 ⟨rfl, hb⟩
      refine ⟨_, rfl, ?_⟩
      have n0_ := Aside0.mk (Kd.R_below (by (with_reducible repeat (first | apply Kd.R_alloc | apply Kd.R_drewN | apply Kd.R_drew)); exact HO463.out) hb)
      have n1_ := Aside0.mk (Kd.R_below (by (with_reducible repeat (first | apply Kd.R_alloc | apply Kd.R_drewN | apply Kd.R_drew)); exact HO467.out) hb)
      have n2_ := Aside0.mk (Kd.R_below (by (with_reducible repeat (first | apply Kd.R_alloc | apply Kd.R_drewN | apply Kd.R_drew)); exact HO475.out) hb)
      have n3_ := Aside0.mk (Kd.R_below (by (with_reducible repeat (first | apply Kd.R_alloc | apply Kd.R_drewN | apply Kd.R_drew)); exact HO483.out) hb)
      have n4_ := Aside0.mk (blk_below (g := gb468) (o := .cells #[.int .i64 t464, .slice Ao15 t465.length co15] 28 (0, 0)) (by (with_reducible repeat (first | refine blk_drewN ?_ _ | refine blk_drew ?_ | refine blk_alloc ?_ _)); exact BK468.out) hb)
      have n5_ := Aside0.mk (blk_below (g := gb471) (o := .cells #[.int .i64 t469, .int .i64 t470] 31 (0, 0)) (by (with_reducible repeat (first | refine blk_drewN ?_ _ | refine blk_drew ?_ | refine blk_alloc ?_ _)); exact BK471.out) hb)
      have n6_ := Aside0.mk (blk_below (g := gb476) (o := .cells #[.int .i64 t472, .slice Ao25 t473.length co25] 79 (0, 0)) (by (with_reducible repeat (first | refine blk_drewN ?_ _ | refine blk_drew ?_ | refine blk_alloc ?_ _)); exact BK476.out) hb)
      have n7_ := Aside0.mk (blk_below (g := gb479) (o := .cells #[.int .i64 t477, .int .i64 t478] 31 (0, 0)) (by (with_reducible repeat (first | refine blk_drewN ?_ _ | refine blk_drew ?_ | refine blk_alloc ?_ _)); exact BK479.out) hb)
      have n8_ := Aside0.mk (below_step (by repeat (first | (with_reducible first | exact HB.out | apply below_alloc | apply pw_below_drewN | apply below_drew1 | refine below_set ?_ GE468.out | refine below_set ?_ GE471.out | refine below_set ?_ GE476.out | refine below_set ?_ GE479.out) | exact HB.out)) hb)
      clear HO463
      clear HO467
      clear HO475
      clear HO483
      clear BK468
      clear BK471
      clear BK476
      clear BK479
      clear HB
      have HO463 := n0_
      have HO467 := n1_
      have HO475 := n2_
      have HO483 := n3_
      have BK468 := n4_
      have BK471 := n5_
      have BK476 := n6_
      have BK479 := n7_
      have HB := n8_
      clear n0_ n1_ n2_ n3_ n4_ n5_ n6_ n7_ n8_
      (try clear hb)
      (try clear hb2)
      (try clear hk)
      (try clear hi)
      refine hK.out _ _ ⟨(blk_cell BK468.out 0).trans rfl, (blk_cell BK468.out 1).trans rfl, (blk_cell BK471.out 0).trans rfl, (blk_cell BK471.out 1).trans rfl, (blk_cell BK476.out 0).trans rfl, (blk_cell BK476.out 1).trans rfl, (blk_cell BK479.out 0).trans rfl, (blk_cell BK479.out 1).trans rfl⟩ (fun hHeld => ?_)
      clear hK K
      refine norm_ (a' := ?_) ?_ ?_
      rotate_left
      ·show Act.put _ (some 41) _ = _
       simp only [Act.put, List.setIfInBounds_toArray, List.set_cons_zero, List.set_cons_succ, i64_w, i32_w]
       rfl
      refine pure_ (i := 12) (N := some 42) (v := ?_) (a' := ?_) #[true, true, true, true, true, true, true, true, true, true, true, true, true, false, false, false, false, false, false, false, false, false, false, false, false, false, false, false] rfl rfl (any_of HT_.out (by kernel_rfl)) (fun _ _ _ h => h) (Or.inl ⟨by rfl, ?_⟩) ?_ ?_
      rotate_left
      ·intro w'
       go_simp
       with_reducible rfl
      rotate_left
      ·simp only [Act.put, List.setIfInBounds_toArray, List.set_cons_zero, List.set_cons_succ, i64_w, i32_w]
       rfl
      refine pure_ (i := 13) (N := some 43) (v := ?_) (a' := ?_) #[true, true, true, true, true, true, true, true, true, true, true, true, true, true, false, false, false, false, false, false, false, false, false, false, false, false, false, false] rfl rfl (any_of HT_.out (by kernel_rfl)) (fun _ _ _ h => h) (Or.inl ⟨by rfl, ?_⟩) ?_ ?_
      rotate_left
      ·intro w'
       go_simp
       with_reducible rfl
      rotate_left
      ·simp only [Act.put, List.setIfInBounds_toArray, List.set_cons_zero, List.set_cons_succ, i64_w, i32_w]
       rfl
      refine pure_ (i := 14) (N := some 44) (v := ?_) (a' := ?_) #[true, true, true, true, true, true, true, true, true, true, true, true, true, true, true, false, false, false, false, false, false, false, false, false, false, false, false, false] rfl rfl (any_of HT_.out (by kernel_rfl)) (fun _ _ _ h => h) (Or.inl ⟨by rfl, ?_⟩) ?_ ?_
      rotate_left
      ·intro w'
       go_simp
       with_reducible rfl
      rotate_left
      ·simp only [Act.put, List.setIfInBounds_toArray, List.set_cons_zero, List.set_cons_succ, i64_w, i32_w]
       rfl
      refine pure_ (i := 15) (N := some 45) (v := ?_) (a' := ?_) #[true, true, true, true, true, true, true, true, true, true, true, true, true, true, true, true, false, false, false, false, false, false, false, false, false, false, false, false] rfl rfl (any_of HT_.out (by kernel_rfl)) (fun _ _ _ h => h) (Or.inl ⟨by rfl, ?_⟩) ?_ ?_
      rotate_left
      ·intro w'
       go_simp
       with_reducible rfl
      rotate_left
      ·simp only [Act.put, List.setIfInBounds_toArray, List.set_cons_zero, List.set_cons_succ, i64_w, i32_w]
       rfl
      refine pure_ (i := 17) (N := some 47) (v := ?_) (a' := ?_) #[true, true, true, true, true, true, true, true, true, true, true, true, true, true, true, true, false, true, false, false, false, false, false, false, false, false, false, false] rfl rfl (any_of HT_.out (by kernel_rfl)) (fun _ _ _ h => h) (Or.inl ⟨by rfl, ?_⟩) ?_ ?_
      rotate_left
      ·intro w'
       go_simp
       with_reducible rfl
      rotate_left
      ·simp only [Act.put, List.setIfInBounds_toArray, List.set_cons_zero, List.set_cons_succ, i64_w, i32_w]
       rfl
      refine take_ (i := 16) (N := some 46) (v := ?_) (a' := ?_) #[true, true, true, true, true, true, true, true, true, true, true, true, true, true, true, true, true, true, false, false, false, false, false, false, false, false, false, false] rfl rfl (take_ofW HT_.out HW_.out (by kernel_rfl)) (fun _ _ _ h => h) (Or.inl ⟨by rfl, ?_⟩) hHeld ?_ ?_
      rotate_left
      ·rintro w' ⟨s0, s1, s2, s3, s4, s5, s6, s7⟩
       go_simp
       with_reducible rfl
      rotate_left
      ·simp only [Act.put, List.setIfInBounds_toArray, List.set_cons_zero, List.set_cons_succ, i64_w, i32_w]
       rfl
      refine one_ (i := 18) (N := some 48) #[true, true, true, true, true, true, true, true, true, true, true, true, true, true, true, true, true, true, true, false, false, false, false, false, false, false, false, false] rfl rfl (one_of HT_.out (by kernel_rfl)) (by decide) (fun K hK => ?_)
      refine goes_ Try.func65 (by kernel_rfl) rfl #[.int .i64 t460] (by rfl) rfl rfl (by (try simp only [List.map_toArray, List.map_cons, List.map_nil]); first | done | rfl | (simp only [List.length_drop, List.length_take]; rfl)) ?_
      with_reducible refine (spec_SizeFault.calls t460 t486 _ A36.out).mono ?_
      rintro e w' ⟨rfl, ⟨nd, rfl⟩⟩
      refine ⟨_, rfl, ?_⟩
      refine hK.out _ _ ⟨(blk_cell BK468.out 0).trans rfl, (blk_cell BK468.out 1).trans rfl, (blk_cell BK471.out 0).trans rfl, (blk_cell BK471.out 1).trans rfl, (blk_cell BK476.out 0).trans rfl, (blk_cell BK476.out 1).trans rfl, (blk_cell BK479.out 0).trans rfl, (blk_cell BK479.out 1).trans rfl⟩ (fun hHeld => ?_)
      clear hK K
      refine norm_ (a' := ?_) ?_ ?_
      rotate_left
      ·show Act.put _ (some 48) _ = _
       simp only [Act.put, List.setIfInBounds_toArray, List.set_cons_zero, List.set_cons_succ, i64_w, i32_w]
       rfl
      refine pure_ (i := 19) (N := some 49) (v := ?_) (a' := ?_) #[true, true, true, true, true, true, true, true, true, true, true, true, true, true, true, true, true, true, true, true, false, false, false, false, false, false, false, false] rfl rfl (any_of HT_.out (by kernel_rfl)) (fun _ _ _ h => h) (Or.inl ⟨by rfl, ?_⟩) ?_ ?_
      rotate_left
      ·intro w'
       go_simp
       with_reducible rfl
      rotate_left
      ·simp only [Act.put, List.setIfInBounds_toArray, List.set_cons_zero, List.set_cons_succ, i64_w, i32_w]
       rfl
      refine pure_ (i := 20) (N := some 50) (v := ?_) (a' := ?_) #[true, true, true, true, true, true, true, true, true, true, true, true, true, true, true, true, true, true, true, true, true, false, false, false, false, false, false, false] rfl rfl (any_of HT_.out (by kernel_rfl)) (fun _ _ _ h => h) (Or.inl ⟨by rfl, ?_⟩) ?_ ?_
      rotate_left
      ·intro w'
       go_simp
       with_reducible rfl
      rotate_left
      ·simp only [Act.put, List.setIfInBounds_toArray, List.set_cons_zero, List.set_cons_succ, i64_w, i32_w]
       rfl
      refine pure_ (i := 21) (N := some 51) (v := ?_) (a' := ?_) #[true, true, true, true, true, true, true, true, true, true, true, true, true, true, true, true, true, true, true, true, true, true, false, false, false, false, false, false] rfl rfl (any_of HT_.out (by kernel_rfl)) (fun _ _ _ h => h) (Or.inl ⟨by rfl, ?_⟩) ?_ ?_
      rotate_left
      ·intro w'
       go_simp
       with_reducible rfl
      rotate_left
      ·simp only [Act.put, List.setIfInBounds_toArray, List.set_cons_zero, List.set_cons_succ, i64_w, i32_w]
       rfl
      refine pure_ (i := 22) (N := some 52) (v := ?_) (a' := ?_) #[true, true, true, true, true, true, true, true, true, true, true, true, true, true, true, true, true, true, true, true, true, true, true, false, false, false, false, false] rfl rfl (any_of HT_.out (by kernel_rfl)) (fun _ _ _ h => h) (Or.inl ⟨by rfl, ?_⟩) ?_ ?_
      rotate_left
      ·intro w'
       go_simp
       with_reducible rfl
      rotate_left
      ·simp only [Act.put, List.setIfInBounds_toArray, List.set_cons_zero, List.set_cons_succ, i64_w, i32_w]
       rfl
      refine pure_ (i := 24) (N := some 54) (v := ?_) (a' := ?_) #[true, true, true, true, true, true, true, true, true, true, true, true, true, true, true, true, true, true, true, true, true, true, true, false, true, false, false, false] rfl rfl (any_of HT_.out (by kernel_rfl)) (fun _ _ _ h => h) (Or.inl ⟨by rfl, ?_⟩) ?_ ?_
      rotate_left
      ·intro w'
       go_simp
       with_reducible rfl
      rotate_left
      ·simp only [Act.put, List.setIfInBounds_toArray, List.set_cons_zero, List.set_cons_succ, i64_w, i32_w]
       rfl
      refine take_ (i := 23) (N := some 53) (v := ?_) (a' := ?_) #[true, true, true, true, true, true, true, true, true, true, true, true, true, true, true, true, true, true, true, true, true, true, true, true, true, false, false, false] rfl rfl (take_ofW HT_.out HW_.out (by kernel_rfl)) (fun _ _ _ h => h) (Or.inl ⟨by rfl, ?_⟩) hHeld ?_ ?_
      rotate_left
      ·rintro w' ⟨s0, s1, s2, s3, s4, s5, s6, s7⟩
       go_simp
       with_reducible rfl
      rotate_left
      ·simp only [Act.put, List.setIfInBounds_toArray, List.set_cons_zero, List.set_cons_succ, i64_w, i32_w]
       rfl
      refine take_ (i := 25) (N := some 55) (v := ?_) (a' := ?_) #[true, true, true, true, true, true, true, true, true, true, true, true, true, true, true, true, true, true, true, true, true, true, true, true, true, true, false, false] rfl rfl (take_ofW HT_.out HW_.out (by kernel_rfl)) (fun _ _ _ h => h) (Or.inl ⟨by rfl, ?_⟩) hHeld ?_ ?_
      rotate_left
      ·rintro w' ⟨s0, s1, s2, s3, s4, s5, s6, s7⟩
       go_simp
       with_reducible rfl
      rotate_left
      ·simp only [Act.put, List.setIfInBounds_toArray, List.set_cons_zero, List.set_cons_succ, i64_w, i32_w]
       rfl
      refine pure_ (i := 26) (N := some 56) (v := ?_) (a' := ?_) #[true, true, true, true, true, true, true, true, true, true, true, true, true, true, true, true, true, true, true, true, true, true, true, true, true, true, true, false] rfl rfl (any_of HT_.out (by kernel_rfl)) (fun _ _ _ h => h) (Or.inl ⟨by rfl, ?_⟩) ?_ ?_
      rotate_left
      ·intro w'
       go_simp
       with_reducible rfl
      rotate_left
      ·simp only [Act.put, List.setIfInBounds_toArray, List.set_cons_zero, List.set_cons_succ, i64_w, i32_w]
       rfl
      refine pure_ (i := 27) (N := some 57) (v := ?_) (a' := ?_) #[true, true, true, true, true, true, true, true, true, true, true, true, true, true, true, true, true, true, true, true, true, true, true, true, true, true, true, true] rfl rfl (any_of HT_.out (by kernel_rfl)) (fun _ _ _ h => h) (Or.inl ⟨by rfl, ?_⟩) ?_ ?_
      rotate_left
      ·intro w'
       go_simp
       with_reducible rfl
      rotate_left
      ·simp only [Act.put, List.setIfInBounds_toArray, List.set_cons_zero, List.set_cons_succ, i64_w, i32_w]
       rfl
      refine done_ (done_of HT_.out (by kernel_rfl)) ?_
      try go_wp2
      go_meet
      case rel => exact ⟨_, ((t477 != t472)), (by first | rfl | (simp; done) | (simp [*]; done)), H', ⟨by first | omega | exact Nat.le_refl _⟩, ⟨by (with_reducible repeat (first | apply Kd.R_alloc | apply Kd.R_drewN | apply Kd.R_drew)); exact Kd.R_mono HO463.out (fun _ hk => hk.1)⟩, ⟨by (with_reducible repeat (first | apply Kd.R_alloc | apply Kd.R_drewN | apply Kd.R_drew)); exact Kd.R_mono HO467.out (fun _ hk => hk.1)⟩, ⟨by (with_reducible repeat (first | apply Kd.R_alloc | apply Kd.R_drewN | apply Kd.R_drew)); exact HO475.out⟩, ⟨by (with_reducible repeat (first | refine blk_drewN ?_ _ | refine blk_drew ?_ | refine blk_alloc ?_ _)); exact BK468.out⟩, ⟨by (with_reducible repeat (first | refine blk_drewN ?_ _ | refine blk_drew ?_ | refine blk_alloc ?_ _)); exact BK471.out⟩, ⟨by (with_reducible repeat (first | refine blk_drewN ?_ _ | refine blk_drew ?_ | refine blk_alloc ?_ _)); exact BK476.out⟩, ⟨by (with_reducible repeat (first | refine blk_drewN ?_ _ | refine blk_drew ?_ | refine blk_alloc ?_ _)); exact BK479.out⟩, ⟨by repeat (first | (with_reducible first | exact HB.out | apply below_alloc | apply pw_below_drewN | apply below_drew1 | refine below_set ?_ GE468.out | refine below_set ?_ GE471.out | refine below_set ?_ GE476.out | refine below_set ?_ GE479.out) | exact HB.out)⟩⟩
     ·rw [if_neg c37] at H
      have c37b0 : (t472 == t486) = false := beq_eq_false_iff_ne.mpr c37
      have c37b1 : (t472 != t486) = true := bne_iff_ne.mpr c37
      exact absurd H (by simp)
   ·rw [if_neg c33] at H
    have c33b0 : (t464 == t480) = false := beq_eq_false_iff_ne.mpr c33
    have c33b1 : (t464 != t480) = true := bne_iff_ne.mpr c33
    (first | rw [c33b0] | (simp only [i64_w, i32_w]; rw [c33b0]) | skip)
    exact absurd H (by simp)
  case rest =>
   clear HC9
   try clear c1
   try clear c2
   try clear p2
   try clear c3
   try clear c6
   try clear c11
   try clear c15
   try clear c18
   try clear c22
   try clear c23
   try clear c24
   try clear c26
   try clear c28
   try clear c29
   try clear c30
   try clear c33
   try clear c33b0
   try clear c33b1
   try clear c35
   try clear c35b0
   try clear c37
   try clear c37b0
   try clear c37b1
   try clear hcz14_0
   try clear hcz14_1
   try clear hcz19_0
   try clear hcz19_1
   try clear hcz24_0
   try clear hcz24_1
   try clear hcz31_0
   try clear hcz31_1
   try clear hfz14_0
   try clear hfz14_1
   try clear hfz19_0
   try clear hfz19_1
   try clear hfz24_0
   try clear hfz24_1
   try clear hfz31_0
   try clear hfz31_1
   obtain ⟨kq, x57_8, rfl, HA, HJ8, HO_4, HO_469001, HO_477001, BK468, BK471, BK476, BK479, HB⟩ := hcut
   cases kq with
   | zero => exact absurd HA.out (by simp [laws_FnBands.j0])
   | succ kj8 =>
    have H := HA.out
    clear HA
    simp only [laws_FnBands.j0] at H
    by_cases c42 : x57_8 = true
    ·subst c42
     replace H : (none) = some r := by rw [if_pos rfl] at H; exact H
     exact absurd H (by simp)
    ·replace c42 := Bool.eq_false_iff.mpr c42
     subst c42
     replace H : (if t464 = 0 then (if (wrap64 (t478 * 2)) = t460 then (laws_FnBands.l0 kj8 t460 t461 t478 0 0 t464 t465 t472 t473 t477 t478) else (none)) else (some true)) = some r := by rw [if_neg (show ¬ (false = true) by decide)] at H; exact H
     by_cases c43 : t464 = 0
     ·rw [if_pos c43] at H
      have c43b0 : (t464 == 0) = true := beq_iff_eq.mpr c43
      have c43b1 : (t464 != 0) = false := bne_eq_false_iff_eq.mpr c43
      clear c43
      by_cases c44 : (wrap64 (t478 * 2)) = t460
      ·rw [if_pos c44] at H
       have c44b0 : ((wrap64 (t478 * 2)) == t460) = true := beq_iff_eq.mpr c44
       have c44b1 : ((wrap64 (t478 * 2)) != t460) = false := bne_eq_false_iff_eq.mpr c44
       clear c44
       have H' := Aside0.mk H
       clear H
       have hnb45 := NB468_471.out
       have hnc45 := NB471_468.out
       have hnb46 := NB468_476.out
       have hnc46 := NB476_468.out
       have hnb47 := NB468_479.out
       have hnc47 := NB479_468.out
       have hcz48_0 : wc.cell? ⟨gb468, 0, none⟩ = some (.int .i64 t464) := (blk_cell BK468.out 0).trans rfl
       have hcz48_1 : wc.cell? ⟨gb468, 1, none⟩ = some (.slice Ao15 t465.length co15) := (blk_cell BK468.out 1).trans rfl
       have hfz48_0 := blk_frozen BK468.out 0
       have hfz48_1 := blk_frozen BK468.out 1
       have hnb49 := NB479_471.out
       have hnc49 := NB471_479.out
       have hnb50 := NB479_476.out
       have hnc50 := NB476_479.out
       have hcz51_0 : wc.cell? ⟨gb479, 0, none⟩ = some (.int .i64 t477) := (blk_cell BK479.out 0).trans rfl
       have hcz51_1 : wc.cell? ⟨gb479, 1, none⟩ = some (.int .i64 t478) := (blk_cell BK479.out 1).trans rfl
       have hfz51_0 := blk_frozen BK479.out 0
       have hfz51_1 := blk_frozen BK479.out 1
       go_wp2
       go_loopg [9, 11] kj8 (fun kq v9 v11 w' => ∃ (x9_2 : Int) (x11_2 : Int), v9 = .int .i64 x9_2 ∧ v11 = .int .i64 x11_2 ∧ Aside0 (laws_FnBands.l0 kq t460 t461 x9_2 0 x11_2 t464 t465 t472 t473 t477 t478 = some r) ∧ Aside0 (kq ≤ kj8) ∧ Aside0 (Kd.R (Kd.int .i64) 2 w' w.heap.size (fun k_ => some k_ ≠ ((.slice Ao15 t465.length co15) : Value).ownBlock) (.slice Ao11 t461.length co11) t461) ∧ Aside0 (Kd.R (Kd.int .i64) 2 w' w.heap.size (fun k_ => some k_ ≠ ((.slice Ao11 t461.length co11) : Value).ownBlock) (.slice Ao15 t465.length co15) t465) ∧ Aside0 (Kd.R k83 83 w' w.heap.size (fun _ => True) (.slice Ao25 t473.length co25) t473) ∧ Aside0 (w'.heap[gb468]? = some (.cells #[.int .i64 t464, (.slice Ao15 t465.length co15)] 28 (0, 0))) ∧ Aside0 (w'.heap[gb471]? = some (.cells #[.int .i64 t469, .int .i64 t470] 31 (0, 0))) ∧ Aside0 (w'.heap[gb476]? = some (.cells #[.int .i64 t472, (.slice Ao25 t473.length co25)] 79 (0, 0))) ∧ Aside0 (w'.heap[gb479]? = some (.cells #[.int .i64 t477, .int .i64 t478] 31 (0, 0))) ∧ Aside0 (Below w.heap.size w w'))
       case atStart => exact ⟨(t478), (0), (by first | rfl | (simp; done) | (simp [*]; done)), (by first | rfl | (simp; done) | (simp [*]; done)), H', ⟨Nat.le_refl _⟩, ⟨by (with_reducible repeat (first | apply Kd.R_alloc | apply Kd.R_drewN | apply Kd.R_drew)); exact HO_4.out⟩, ⟨by (with_reducible repeat (first | apply Kd.R_alloc | apply Kd.R_drewN | apply Kd.R_drew)); exact HO_469001.out⟩, ⟨by (with_reducible repeat (first | apply Kd.R_alloc | apply Kd.R_drewN | apply Kd.R_drew)); exact HO_477001.out⟩, ⟨by (with_reducible repeat (first | refine blk_drewN ?_ _ | refine blk_drew ?_ | refine blk_alloc ?_ _)); exact BK468.out⟩, ⟨by (with_reducible repeat (first | refine blk_drewN ?_ _ | refine blk_drew ?_ | refine blk_alloc ?_ _)); exact BK471.out⟩, ⟨by (with_reducible repeat (first | refine blk_drewN ?_ _ | refine blk_drew ?_ | refine blk_alloc ?_ _)); exact BK476.out⟩, ⟨by (with_reducible repeat (first | refine blk_drewN ?_ _ | refine blk_drew ?_ | refine blk_alloc ?_ _)); exact BK479.out⟩, ⟨by repeat (first | (with_reducible first | exact HB.out | apply below_alloc | apply pw_below_drewN | apply below_drew1 | refine below_set ?_ GE468.out | refine below_set ?_ GE471.out | refine below_set ?_ GE476.out | refine below_set ?_ GE479.out) | exact HB.out)⟩⟩
       case round =>
        clear H'
        try clear c1
        try clear c2
        try clear p2
        try clear c3
        try clear c4
        try clear c5
        try clear c6
        try clear p6
        try clear c11
        try clear c15
        try clear c18
        try clear c22
        try clear c23
        try clear c24
        try clear c26
        try clear c28
        try clear c29
        try clear c30
        try clear c33
        try clear c33b0
        try clear c33b1
        try clear c35
        try clear c35b0
        try clear c37
        try clear c37b0
        try clear c37b1
        try clear c42
        try clear c43
        try clear c43b0
        try clear c43b1
        try clear c44
        try clear c44b0
        try clear c44b1
        try clear c45
        try clear c46
        try clear c47
        try clear c49
        try clear c50
        try clear hcz14_0
        try clear hcz14_1
        try clear hcz19_0
        try clear hcz19_1
        try clear hcz24_0
        try clear hcz24_1
        try clear hcz31_0
        try clear hcz31_1
        try clear hcz48_0
        try clear hcz48_1
        try clear hcz51_0
        try clear hcz51_1
        try clear hfz14_0
        try clear hfz14_1
        try clear hfz19_0
        try clear hfz19_1
        try clear hfz24_0
        try clear hfz24_1
        try clear hfz31_0
        try clear hfz31_1
        try clear hfz48_0
        try clear hfz48_1
        try clear hfz51_0
        try clear hfz51_1
        try clear p2
        obtain ⟨x9_2, x11_2, rfl, rfl, HA, HK2, HO_4, HO_469001, HO_477001, BK468, BK471, BK476, BK479, HB⟩ := hrel
        cases gk with
        | zero => exact absurd HA.out (by simp [laws_FnBands.l0])
        | succ k2 =>
         have H := HA.out
         clear HA
         simp only [laws_FnBands.l0] at H
         by_cases c52 : x11_2 < (t473.length : Int)
         ·rw [if_pos c52] at H
          have c52b0 : decide (x11_2 < (t473.length : Int)) = true := decide_eq_true c52
          clear c52
          by_cases c53 : 0 ≤ x11_2
          ·rw [if_pos c53] at H
           have c53b0 : decide (0 ≤ x11_2) = true := decide_eq_true c53
           clear c53
           by_cases c54 : ((rd_T83 t473 x11_2).f0) = x9_2
           ·rw [if_pos c54] at H
            have c54b0 : (((rd_T83 t473 x11_2).f0) == x9_2) = true := beq_iff_eq.mpr c54
            have c54b1 : (((rd_T83 t473 x11_2).f0) != x9_2) = false := bne_eq_false_iff_eq.mpr c54
            clear c54
            by_cases c55 : ((rd_T83 t473 x11_2).f1) < 1
            ·rw [if_pos c55] at H
             exact absurd H (by simp)
            ·rw [if_neg c55] at H
             have c55b0 : decide (((rd_T83 t473 x11_2).f1) < 1) = false := decide_eq_false c55
             clear c55
             by_cases c56 : ((rd_T83 t473 x11_2).f1) > 4
             ·rw [if_pos c56] at H
              exact absurd H (by simp)
             ·rw [if_neg c56] at H
              have c56b0 : decide (4 < ((rd_T83 t473 x11_2).f1)) = false := decide_eq_false c56
              clear c56
              have H' := Aside0.mk H
              clear H
              have hnb57 := NB476_468.out
              have hnc57 := NB468_476.out
              have hnb58 := NB476_471.out
              have hnc58 := NB471_476.out
              have hnb59 := NB476_479.out
              have hnc59 := NB479_476.out
              have hcz60_0 : wr.cell? ⟨gb476, 0, none⟩ = some (.int .i64 t472) := (blk_cell BK476.out 0).trans rfl
              have hcz60_1 : wr.cell? ⟨gb476, 1, none⟩ = some (.slice Ao25 t473.length co25) := (blk_cell BK476.out 1).trans rfl
              have hfz60_0 := blk_frozen BK476.out 0
              have hfz60_1 := blk_frozen BK476.out 1
              have p487 : 0 ≤ (x11_2 : Int) := of_decide_eq_true (by first | (with_reducible assumption) | assumption)
              have q487 : x11_2 < (t473.length : Int) := of_decide_eq_true (by first | (with_reducible assumption) | assumption)
              obtain ⟨ad487, e487, hx487_0, hx487_1⟩ := at_T83 (Kd.R_reads' HO_477001.out).2.2 x11_2 p487 q487
              cases e487
              replace p487 := eq_true p487
              replace q487 := eq_true q487
              have p488 : 0 ≤ (x11_2 : Int) := of_decide_eq_true (by first | (with_reducible assumption) | assumption)
              have q488 : x11_2 < (t473.length : Int) := of_decide_eq_true (by first | (with_reducible assumption) | assumption)
              obtain ⟨ad488, e488, hx488_0, hx488_1⟩ := at_T83 (Kd.R_reads' HO_477001.out).2.2 x11_2 p488 q488
              obtain rfl : ad487 = ad488 := (by injection e488)
              replace p488 := eq_true p488
              replace q488 := eq_true q488
              have p489 : 0 ≤ (x11_2 : Int) := of_decide_eq_true (by first | (with_reducible assumption) | assumption)
              have q489 : x11_2 < (t473.length : Int) := of_decide_eq_true (by first | (with_reducible assumption) | assumption)
              obtain ⟨ad489, e489, hx489_0, hx489_1⟩ := at_T83 (Kd.R_reads' HO_477001.out).2.2 x11_2 p489 q489
              obtain rfl : ad487 = ad489 := (by injection e489)
              replace p489 := eq_true p489
              replace q489 := eq_true q489
              have p490 : 0 ≤ (x11_2 : Int) := of_decide_eq_true (by first | (with_reducible assumption) | assumption)
              have q490 : x11_2 < (t473.length : Int) := of_decide_eq_true (by first | (with_reducible assumption) | assumption)
              obtain ⟨ad490, e490, hx490_0, hx490_1⟩ := at_T83 (Kd.R_reads' HO_477001.out).2.2 x11_2 p490 q490
              obtain rfl : ad487 = ad490 := (by injection e490)
              replace p490 := eq_true p490
              replace q490 := eq_true q490
              go_wp2
              go_roundg k2
              case measure => have := HJ8.out; have := HK2.out; omega
              case rel => exact ⟨(wrap64 (x9_2 + ((rd_T83 t473 x11_2).f1))), (wrap64 (x11_2 + 1)), (by first | rfl | (simp; done) | (simp [*]; done)), (by first | rfl | (simp; done) | (simp [*]; done)), H', ⟨by have := HJ8.out; have := HK2.out; omega⟩, ⟨by (with_reducible repeat (first | apply Kd.R_alloc | apply Kd.R_drewN | apply Kd.R_drew)); exact HO_4.out⟩, ⟨by (with_reducible repeat (first | apply Kd.R_alloc | apply Kd.R_drewN | apply Kd.R_drew)); exact HO_469001.out⟩, ⟨by (with_reducible repeat (first | apply Kd.R_alloc | apply Kd.R_drewN | apply Kd.R_drew)); exact HO_477001.out⟩, ⟨by (with_reducible repeat (first | refine blk_drewN ?_ _ | refine blk_drew ?_ | refine blk_alloc ?_ _)); exact BK468.out⟩, ⟨by (with_reducible repeat (first | refine blk_drewN ?_ _ | refine blk_drew ?_ | refine blk_alloc ?_ _)); exact BK471.out⟩, ⟨by (with_reducible repeat (first | refine blk_drewN ?_ _ | refine blk_drew ?_ | refine blk_alloc ?_ _)); exact BK476.out⟩, ⟨by (with_reducible repeat (first | refine blk_drewN ?_ _ | refine blk_drew ?_ | refine blk_alloc ?_ _)); exact BK479.out⟩, ⟨by repeat (first | (with_reducible first | exact HB.out | apply below_alloc | apply pw_below_drewN | apply below_drew1 | refine below_set ?_ GE468.out | refine below_set ?_ GE471.out | refine below_set ?_ GE476.out | refine below_set ?_ GE479.out) | exact HB.out)⟩⟩
           ·rw [if_neg c54] at H
            exact absurd H (by simp)
          ·rw [if_neg c53] at H
           exact absurd H (by simp)
         ·rw [if_neg c52] at H
          have c52b0 : decide (x11_2 < (t473.length : Int)) = false := decide_eq_false c52
          clear c52
          have H' := Aside0.mk H
          clear H
          have hnb61 := NB476_468.out
          have hnc61 := NB468_476.out
          have hnb62 := NB476_471.out
          have hnc62 := NB471_476.out
          have hnb63 := NB476_479.out
          have hnc63 := NB479_476.out
          have hcz64_0 : wr.cell? ⟨gb476, 0, none⟩ = some (.int .i64 t472) := (blk_cell BK476.out 0).trans rfl
          have hcz64_1 : wr.cell? ⟨gb476, 1, none⟩ = some (.slice Ao25 t473.length co25) := (blk_cell BK476.out 1).trans rfl
          have hfz64_0 := blk_frozen BK476.out 0
          have hfz64_1 := blk_frozen BK476.out 1
          go_wp2
          go_loopg [10, 12] k2 (fun kq v10 v12 w' => ∃ (x10_3 : Int) (x12_3 : Int), v10 = .int .i64 x10_3 ∧ v12 = .int .i64 x12_3 ∧ Aside0 (laws_FnBands.l1 kq t460 t461 x9_2 x10_3 x12_3 t464 t465 t472 t473 t477 t478 = some r) ∧ Aside0 (kq ≤ k2) ∧ Aside0 (Kd.R (Kd.int .i64) 2 w' w.heap.size (fun k_ => some k_ ≠ ((.slice Ao15 t465.length co15) : Value).ownBlock) (.slice Ao11 t461.length co11) t461) ∧ Aside0 (Kd.R (Kd.int .i64) 2 w' w.heap.size (fun k_ => some k_ ≠ ((.slice Ao11 t461.length co11) : Value).ownBlock) (.slice Ao15 t465.length co15) t465) ∧ Aside0 (Kd.R k83 83 w' w.heap.size (fun _ => True) (.slice Ao25 t473.length co25) t473) ∧ Aside0 (w'.heap[gb468]? = some (.cells #[.int .i64 t464, (.slice Ao15 t465.length co15)] 28 (0, 0))) ∧ Aside0 (w'.heap[gb471]? = some (.cells #[.int .i64 t469, .int .i64 t470] 31 (0, 0))) ∧ Aside0 (w'.heap[gb476]? = some (.cells #[.int .i64 t472, (.slice Ao25 t473.length co25)] 79 (0, 0))) ∧ Aside0 (w'.heap[gb479]? = some (.cells #[.int .i64 t477, .int .i64 t478] 31 (0, 0))) ∧ Aside0 (Below w.heap.size w w'))
          case atStart => exact ⟨(0), (0), (by first | rfl | (simp; done) | (simp [*]; done)), (by first | rfl | (simp; done) | (simp [*]; done)), H', ⟨Nat.le_refl _⟩, ⟨by (with_reducible repeat (first | apply Kd.R_alloc | apply Kd.R_drewN | apply Kd.R_drew)); exact HO_4.out⟩, ⟨by (with_reducible repeat (first | apply Kd.R_alloc | apply Kd.R_drewN | apply Kd.R_drew)); exact HO_469001.out⟩, ⟨by (with_reducible repeat (first | apply Kd.R_alloc | apply Kd.R_drewN | apply Kd.R_drew)); exact HO_477001.out⟩, ⟨by (with_reducible repeat (first | refine blk_drewN ?_ _ | refine blk_drew ?_ | refine blk_alloc ?_ _)); exact BK468.out⟩, ⟨by (with_reducible repeat (first | refine blk_drewN ?_ _ | refine blk_drew ?_ | refine blk_alloc ?_ _)); exact BK471.out⟩, ⟨by (with_reducible repeat (first | refine blk_drewN ?_ _ | refine blk_drew ?_ | refine blk_alloc ?_ _)); exact BK476.out⟩, ⟨by (with_reducible repeat (first | refine blk_drewN ?_ _ | refine blk_drew ?_ | refine blk_alloc ?_ _)); exact BK479.out⟩, ⟨by repeat (first | (with_reducible first | exact HB.out | apply below_alloc | apply pw_below_drewN | apply below_drew1 | refine below_set ?_ GE468.out | refine below_set ?_ GE471.out | refine below_set ?_ GE476.out | refine below_set ?_ GE479.out) | exact HB.out)⟩⟩
          case round =>
           clear H'
           try clear c1
           try clear c2
           try clear p2
           try clear c3
           try clear c4
           try clear p4
           try clear q4
           try clear hx4
           try clear c5
           try clear c6
           try clear p6
           try clear c11
           try clear c15
           try clear c18
           try clear c22
           try clear c23
           try clear c24
           try clear c26
           try clear c28
           try clear c29
           try clear c30
           try clear c33
           try clear c33b0
           try clear c33b1
           try clear c35
           try clear c35b0
           try clear c37
           try clear c37b0
           try clear c37b1
           try clear c42
           try clear c43
           try clear c43b0
           try clear c43b1
           try clear c44
           try clear c44b0
           try clear c44b1
           try clear c45
           try clear c46
           try clear c47
           try clear p48
           try clear q48
           try clear hx48
           try clear c49
           try clear p49
           try clear q49
           try clear hx49
           try clear c50
           try clear c52
           try clear c52b0
           try clear c53
           try clear c53b0
           try clear c54
           try clear c54b0
           try clear c54b1
           try clear c55
           try clear c55b0
           try clear c56
           try clear c56b0
           try clear c57
           try clear c58
           try clear c59
           try clear c61
           try clear c62
           try clear c63
           try clear c64
           try clear p64
           try clear hcz14_0
           try clear hcz14_1
           try clear hcz19_0
           try clear hcz19_1
           try clear hcz24_0
           try clear hcz24_1
           try clear hcz31_0
           try clear hcz31_1
           try clear hcz48_0
           try clear hcz48_1
           try clear hcz51_0
           try clear hcz51_1
           try clear hcz60_0
           try clear hcz60_1
           try clear hcz64_0
           try clear hcz64_1
           try clear hfz14_0
           try clear hfz14_1
           try clear hfz19_0
           try clear hfz19_1
           try clear hfz24_0
           try clear hfz24_1
           try clear hfz31_0
           try clear hfz31_1
           try clear hfz48_0
           try clear hfz48_1
           try clear hfz51_0
           try clear hfz51_1
           try clear hfz60_0
           try clear hfz60_1
           try clear hfz64_0
           try clear hfz64_1
           try clear hx487_0
           try clear hx487_1
           try clear hx488_0
           try clear hx488_1
           try clear hx489_0
           try clear hx489_1
           try clear hx490_0
           try clear hx490_1
           try clear p2
           try clear p487
           try clear p488
           try clear p489
           try clear p490
           try clear p6
           try clear q487
           try clear q488
           try clear q489
           try clear q490
           obtain ⟨x10_3, x12_3, rfl, rfl, HA, HK3, HO_4, HO_469001, HO_477001, BK468, BK471, BK476, BK479, HB⟩ := hrel
           cases gk with
           | zero => exact absurd HA.out (by simp [laws_FnBands.l1])
           | succ k3 =>
            have H := HA.out
            clear HA
            simp only [laws_FnBands.l1] at H
            by_cases c65 : x12_3 < (t465.length : Int)
            ·rw [if_pos c65] at H
             have c65b0 : decide (x12_3 < (t465.length : Int)) = true := decide_eq_true c65
             clear c65
             by_cases c66 : 0 ≤ x12_3
             ·rw [if_pos c66] at H
              have c66b0 : decide (0 ≤ x12_3) = true := decide_eq_true c66
              clear c66
              have H' := Aside0.mk H
              clear H
              have hnb67 := NB468_471.out
              have hnc67 := NB471_468.out
              have hnb68 := NB468_476.out
              have hnc68 := NB476_468.out
              have hnb69 := NB468_479.out
              have hnc69 := NB479_468.out
              have hcz70_0 : wr.cell? ⟨gb468, 0, none⟩ = some (.int .i64 t464) := (blk_cell BK468.out 0).trans rfl
              have hcz70_1 : wr.cell? ⟨gb468, 1, none⟩ = some (.slice Ao15 t465.length co15) := (blk_cell BK468.out 1).trans rfl
              have hfz70_0 := blk_frozen BK468.out 0
              have hfz70_1 := blk_frozen BK468.out 1
              have p491 : 0 ≤ (x12_3 : Int) := of_decide_eq_true (by first | (with_reducible assumption) | assumption)
              have q491 : x12_3 < (t465.length : Int) := of_decide_eq_true (by first | (with_reducible assumption) | assumption)
              obtain ⟨ad491, e491, hx491_0⟩ := Kd.at_int (Kd.R_reads' HO_469001.out).2.2 x12_3 p491 q491
              cases e491
              replace p491 := eq_true p491
              replace q491 := eq_true q491
              go_wp2
              go_roundg k3
              case measure => have := HJ8.out; have := HK2.out; have := HK3.out; omega
              case rel => exact ⟨(wrap64 (x10_3 + (rd t465 x12_3))), (wrap64 (x12_3 + 1)), (by first | rfl | (simp; done) | (simp [*]; done)), (by first | rfl | (simp; done) | (simp [*]; done)), H', ⟨by have := HJ8.out; have := HK2.out; have := HK3.out; omega⟩, ⟨by (with_reducible repeat (first | apply Kd.R_alloc | apply Kd.R_drewN | apply Kd.R_drew)); exact HO_4.out⟩, ⟨by (with_reducible repeat (first | apply Kd.R_alloc | apply Kd.R_drewN | apply Kd.R_drew)); exact HO_469001.out⟩, ⟨by (with_reducible repeat (first | apply Kd.R_alloc | apply Kd.R_drewN | apply Kd.R_drew)); exact HO_477001.out⟩, ⟨by (with_reducible repeat (first | refine blk_drewN ?_ _ | refine blk_drew ?_ | refine blk_alloc ?_ _)); exact BK468.out⟩, ⟨by (with_reducible repeat (first | refine blk_drewN ?_ _ | refine blk_drew ?_ | refine blk_alloc ?_ _)); exact BK471.out⟩, ⟨by (with_reducible repeat (first | refine blk_drewN ?_ _ | refine blk_drew ?_ | refine blk_alloc ?_ _)); exact BK476.out⟩, ⟨by (with_reducible repeat (first | refine blk_drewN ?_ _ | refine blk_drew ?_ | refine blk_alloc ?_ _)); exact BK479.out⟩, ⟨by repeat (first | (with_reducible first | exact HB.out | apply below_alloc | apply pw_below_drewN | apply below_drew1 | refine below_set ?_ GE468.out | refine below_set ?_ GE471.out | refine below_set ?_ GE476.out | refine below_set ?_ GE479.out) | exact HB.out)⟩⟩
             ·rw [if_neg c66] at H
              exact absurd H (by simp)
            ·rw [if_neg c65] at H
             have c65b0 : decide (x12_3 < (t465.length : Int)) = false := decide_eq_false c65
             clear c65
             by_cases c71 : x9_2 = t460
             ·rw [if_pos c71] at H
              have c71b0 : (x9_2 == t460) = true := beq_iff_eq.mpr c71
              have c71b1 : (x9_2 != t460) = false := bne_eq_false_iff_eq.mpr c71
              clear c71
              by_cases c72 : (t465.length : Int) = (t473.length : Int)
              ·rw [if_pos c72] at H
               have c72b0 : ((t465.length : Int) == (t473.length : Int)) = true := beq_iff_eq.mpr c72
               have c72b1 : ((t465.length : Int) != (t473.length : Int)) = false := bne_eq_false_iff_eq.mpr c72
               have c72b2 : (t465.length == t473.length) = true := by first | simpa using c72 | (simp at c72 ⊢; omega)
               clear c72
               by_cases c73 : 0 ≤ t478
               ·rw [if_pos c73] at H
                have c73b0 := eq_true c73
                have c73b1 : decide (0 ≤ t478) = true := decide_eq_true c73
                clear c73
                by_cases c74 : t478 ≤ (t461.length : Int)
                ·rw [if_pos c74] at H
                 have c74b0 := eq_true c74
                 have c74b1 : decide (t478 ≤ (t461.length : Int)) = true := decide_eq_true c74
                 clear c74
                 obtain ⟨y492, hy492⟩ : ∃ y_ : List Int, y_ = (t461.drop (t478 : Int).toNat) := ⟨_, rfl⟩
                 replace H : ((impl_NormOf.f k3 y492).bind fun bt496 => (some (x10_3 == bt496.2))) = some r := by first | (rw [hy492]; with_reducible exact H) | (have H2_ := (Option.bind_some _ _).symm.trans H; rw [hy492]; with_reducible exact H2_) | (have H2_ := (Option.bind_some _ _).symm.trans H; with_reducible exact H2_) | with_reducible exact H | (rw [hy492]; exact H) | exact H
                 have Ny492 := Aside0.mk hy492
                 clear hy492
                 replace H := Option.bind_eq_some_iff.mp H
                 obtain ⟨⟨t496, t497⟩, A750, H⟩ := H
                 replace H : (some (x10_3 == t497)) = some r := H
                 have A75 := Aside0.mk A750
                 clear A750
                 obtain rfl := Option.some.inj H
                 have hnb76 := NB468_471.out
                 have hnc76 := NB471_468.out
                 have hnb77 := NB468_476.out
                 have hnc77 := NB476_468.out
                 have hnb78 := NB468_479.out
                 have hnc78 := NB479_468.out
                 have hcz79_0 : wr.cell? ⟨gb468, 0, none⟩ = some (.int .i64 t464) := (blk_cell BK468.out 0).trans rfl
                 have hcz79_1 : wr.cell? ⟨gb468, 1, none⟩ = some (.slice Ao15 t465.length co15) := (blk_cell BK468.out 1).trans rfl
                 have hfz79_0 := blk_frozen BK468.out 0
                 have hfz79_1 := blk_frozen BK468.out 1
                 have hnb80 := NB476_471.out
                 have hnc80 := NB471_476.out
                 have hnb81 := NB476_479.out
                 have hnc81 := NB479_476.out
                 have hcz82_0 : wr.cell? ⟨gb476, 0, none⟩ = some (.int .i64 t472) := (blk_cell BK476.out 0).trans rfl
                 have hcz82_1 : wr.cell? ⟨gb476, 1, none⟩ = some (.slice Ao25 t473.length co25) := (blk_cell BK476.out 1).trans rfl
                 have hfz82_0 := blk_frozen BK476.out 0
                 have hfz82_1 := blk_frozen BK476.out 1
                 have hnb83 := NB479_471.out
                 have hnc83 := NB471_479.out
                 have hcz84_0 : wr.cell? ⟨gb479, 0, none⟩ = some (.int .i64 t477) := (blk_cell BK479.out 0).trans rfl
                 have hcz84_1 : wr.cell? ⟨gb479, 1, none⟩ = some (.int .i64 t478) := (blk_cell BK479.out 1).trans rfl
                 have hfz84_0 := blk_frozen BK479.out 0
                 have hfz84_1 := blk_frozen BK479.out 1
                 have q85 : (t478 : Int) ≤ ((t461.length : Int) : Int) := of_decide_eq_true (by first | (with_reducible assumption) | assumption)
                 obtain ⟨i085, hi085, _, hsz85, _⟩ := info_parts info2
                 have hroom85 : t461.length ≤ co11 := (Kd.R_reads' HO_4.out).2.1
                 have hC85 : Kd.C (Kd.int .i64) _ Ao11 t461.length t461 := (Kd.R_reads' HO_4.out).2.2
                 have q085 : (0 : Int) ≤ (t478 : Int) := of_decide_eq_true (by first | (with_reducible assumption) | assumption)
                 have hcut85 := cut_from (P := Try.prog) 26 2 .i64 Try.underlying26 hi085 1 hsz85 Ao11 t461.length co11 t478 q085 q85
                 have hr85 := Kd.C_drop (m := (t478 : Int).toNat) (c := co11) hC85 (by omega) hroom85
                 obtain ⟨A85, hA85⟩ : ∃ A1, A1 = (if co11 = (t478 : Int).toNat then Ao11 else (Ao11 : Option Addr).map (·.add ((t478 : Int).toNat * 1))) := ⟨_, rfl⟩
                 obtain ⟨c85, hc85⟩ : ∃ c1, c1 = co11 - (t478 : Int).toNat := ⟨_, rfl⟩
                 have hy85 : y492.length = t461.length - (t478 : Int).toNat := (by rw [Ny492.out, List.length_drop] <;> omega)
                 rw [show (t461).drop (t478 : Int).toNat = y492 from Ny492.out.symm] at hr85
                 replace hr85 : Kd.C (Kd.int .i64) _ A85 y492.length y492 := (by rw [hA85]; exact hr85)
                 rw [← hy85, ← hA85, ← hc85] at hcut85
                 have HR495 := Aside0.mk hr85
                 have HC495 := Aside0.mk (show y492.length ≤ c85 from by rw [hy85, hc85]; exact Nat.sub_le_sub_right hroom85 _)
                 clear hr85 hC85 hroom85 hi085 hsz85 hc85
                 have KY85 := Aside0.mk hy85
                 have KA85 := Aside0.mk hA85
                 clear hy85 hA85
                 have KL85 := Aside0.mk (show (t478 : Int).toNat ≤ t461.length from by omega)
                 replace q85 := eq_true q85
                 go_wp2_with (first | (go_at_call 66; (with_reducible refine (impl_NormOf.calls k3 _ _ y492 t496 t497 _ ?side1 ?side2 A75.out).mono ?_); (case side1 => repeat (first | exact (by repeat (first | (with_reducible exact HR495.out) | (with_reducible refine Kd.C_alloc ?_ _) | (with_reducible refine Kd.C_drewN ?_ _) | (with_reducible refine Kd.C_drew ?_) | exact HR495.out)) | (with_reducible refine Kd.C_alloc ?_ _) | (with_reducible refine Kd.C_drewN ?_ _) | (with_reducible refine Kd.C_drew ?_))); (case side2 => exact HC495.out); rintro e w86 ⟨rfl, hb⟩; have n0_ := Aside0.mk (Kd.R_below (by (with_reducible repeat (first | apply Kd.R_alloc | apply Kd.R_drewN | apply Kd.R_drew)); exact HO_4.out) hb); have n1_ := Aside0.mk (Kd.R_below (by (with_reducible repeat (first | apply Kd.R_alloc | apply Kd.R_drewN | apply Kd.R_drew)); exact HO_469001.out) hb); have n2_ := Aside0.mk (Kd.R_below (by (with_reducible repeat (first | apply Kd.R_alloc | apply Kd.R_drewN | apply Kd.R_drew)); exact HO_477001.out) hb); have n3_ := Aside0.mk (blk_below (g := gb468) (o := .cells #[.int .i64 t464, .slice Ao15 t465.length co15] 28 (0, 0)) (by (with_reducible repeat (first | refine blk_drewN ?_ _ | refine blk_drew ?_ | refine blk_alloc ?_ _)); exact BK468.out) hb); have n4_ := Aside0.mk (blk_below (g := gb471) (o := .cells #[.int .i64 t469, .int .i64 t470] 31 (0, 0)) (by (with_reducible repeat (first | refine blk_drewN ?_ _ | refine blk_drew ?_ | refine blk_alloc ?_ _)); exact BK471.out) hb); have n5_ := Aside0.mk (blk_below (g := gb476) (o := .cells #[.int .i64 t472, .slice Ao25 t473.length co25] 79 (0, 0)) (by (with_reducible repeat (first | refine blk_drewN ?_ _ | refine blk_drew ?_ | refine blk_alloc ?_ _)); exact BK476.out) hb); have n6_ := Aside0.mk (blk_below (g := gb479) (o := .cells #[.int .i64 t477, .int .i64 t478] 31 (0, 0)) (by (with_reducible repeat (first | refine blk_drewN ?_ _ | refine blk_drew ?_ | refine blk_alloc ?_ _)); exact BK479.out) hb); have n7_ := Aside0.mk (Kd.C_below (by repeat (first | (with_reducible exact HR495.out) | (with_reducible refine Kd.C_alloc ?_ _) | (with_reducible refine Kd.C_drewN ?_ _) | (with_reducible refine Kd.C_drew ?_) | exact HR495.out)) hb); have n8_ := Aside0.mk (below_step (by repeat (first | (with_reducible first | exact HB.out | apply below_alloc | apply pw_below_drewN | apply below_drew1 | refine below_set ?_ GE468.out | refine below_set ?_ GE471.out | refine below_set ?_ GE476.out | refine below_set ?_ GE479.out) | exact HB.out)) hb); clear HO_4; clear HO_469001; clear HO_477001; clear BK468; clear BK471; clear BK476; clear BK479; clear HR495; clear HB; have HO_4 := n0_; have HO_469001 := n1_; have HO_477001 := n2_; have BK468 := n3_; have BK471 := n4_; have BK476 := n5_; have BK479 := n6_; have HR495 := n7_; have HB := n8_; clear n0_ n1_ n2_ n3_ n4_ n5_ n6_ n7_ n8_; (try clear hb); (try clear hb2); (try clear hk); (try clear hi)))
                 go_ret
                 exact ⟨by first | rfl | (simp [errW_none, errW_some] <;> rfl) | (simp [*, errW_none, errW_some] <;> rfl), by repeat (first | (with_reducible first | exact HB.out | apply below_alloc | apply pw_below_drewN | apply below_drew1 | refine below_set ?_ GE468.out | refine below_set ?_ GE471.out | refine below_set ?_ GE476.out | refine below_set ?_ GE479.out) | exact HB.out)⟩
                ·rw [if_neg c74] at H
                 exact absurd H (by simp)
               ·rw [if_neg c73] at H
                exact absurd H (by simp)
              ·rw [if_neg c72] at H
               exact absurd H (by simp)
             ·rw [if_neg c71] at H
              exact absurd H (by simp)
      ·rw [if_neg c44] at H
       exact absurd H (by simp)
     ·rw [if_neg c43] at H
      have c43b0 : (t464 == 0) = false := beq_eq_false_iff_ne.mpr c43
      have c43b1 : (t464 != 0) = true := bne_iff_ne.mpr c43
      obtain rfl := Option.some.inj H
      have hnb87 := NB468_471.out
      have hnc87 := NB471_468.out
      have hnb88 := NB468_476.out
      have hnc88 := NB476_468.out
      have hnb89 := NB468_479.out
      have hnc89 := NB479_468.out
      have hcz90_0 : wc.cell? ⟨gb468, 0, none⟩ = some (.int .i64 t464) := (blk_cell BK468.out 0).trans rfl
      have hcz90_1 : wc.cell? ⟨gb468, 1, none⟩ = some (.slice Ao15 t465.length co15) := (blk_cell BK468.out 1).trans rfl
      have hfz90_0 := blk_frozen BK468.out 0
      have hfz90_1 := blk_frozen BK468.out 1
      go_wp2
      go_ret
      exact ⟨by first | rfl | (simp [errW_none, errW_some] <;> rfl) | (simp [*, errW_none, errW_some] <;> rfl), by repeat (first | (with_reducible first | exact HB.out | apply below_alloc | apply pw_below_drewN | apply below_drew1 | refine below_set ?_ GE468.out | refine below_set ?_ GE471.out | refine below_set ?_ GE476.out | refine below_set ?_ GE479.out) | exact HB.out)⟩

/-- THE ONE PURE STATEMENT of laws_FnBands: yours. -/
def laws_FnBands.Pure : Prop := ∀ (l0 : List Int), l0.length ≤ maxLen → l0.length * 1 ≤ 140737488351232 → (∀ x ∈ l0, (Lit.int .u8 x).wf = true) → ∃ k, laws_FnBands.f k l0 = some true
theorem laws_FnBands.walk (P : laws_FnBands.Pure) (a0 : Option Addr) (len0 cap0 : Nat) (z0 : List Int) (w : World) (w0 : (a0 = none ∧ len0 = 0 ∧ cap0 = 0 ∧ z0 = []) ∨ ∃ x, a0 = some x ∧ len0 ≤ cap0 ∧ cap0 ≤ maxLen ∧ z0.length = cap0 ∧ (∀ i, i < z0.length → w.cell? (x.add i) = some (.int .u8 (z0.getD i 0))) ∧ ∀ n ∈ z0, (Lit.int .u8 n).wf = true) (y0 : len0 * 1 ≤ 140737488351232) :
  Calls Try.prog 11 #[.slice a0 len0 cap0] w fun e w' => e = .returned (.bool true) ∧ Below w.heap.size w w' := by
 obtain ⟨l0, rfl, hr0, hm0, hw0, hc0⟩ := ReadsInt.ofRowC w0
 obtain ⟨k, h⟩ := P l0 hm0 y0 hw0
 refine (laws_FnBands.calls k _ _ l0 true w (Kd.C_of_reads (d := (0 : Int)) (h1 := fun _ => rfl) hr0) hc0 h).mono ?_
 rintro e w' ⟨rfl, hd⟩
 exact ⟨rfl, hd⟩

end Go.Proofs.Ytpbkbibjlbbkbaa.PFnBands
