-- Contracts of the functions that the law reaches, written by wip/xprint.py of this repo.
import Derived.Test.YtpbkbibjlbbkbaaPFnShapesx0
import Derived.Test.YtpbkbibjlbbkbaaPFnShapesx1
import Derived.Test.YtpbkbibjlbbkbaaPFnShapesx5
namespace Go.Proofs.Ytpbkbibjlbbkbaa.PFnShapes
open Go.RowKit Go.Proofs.YtpbkbibjlbbkbaaW.PrintWords Go.Proofs.YtpbkbibjlbbkbaaW.PrintLast Go.Proofs.YtpbkbibjlbbkbaaW.PrintMore
attribute [local go_sem] max2_int min2_int max_two min_two max_three min_three max_four min_four   -- for this text's walks alone
set_option linter.unusedVariables false
set_option linter.unusedSimpArgs false

/-! ### spec_DrawSearchPulses: function 67 -/
def spec_DrawSearchPulses.l0 : Nat → List Int → Int → Int → List Int → Int → Option (List Int × Int)
 | 0, _, _, _, _, _ => none
 | k + 1, x5, x30, x31, x220000, x220001 => if x31 < x30 then ((spec_l1Pick.f x220000 x220001 (([0, 5] : List Int))).bind fun bt256 => (if 0 ≤ x31 then (if x31 < (x5.length : Int) then (spec_DrawSearchPulses.l0 k (x5.set (x31 : Int).toNat bt256.1) x30 (wrap64 (x31 + 1)) x220000 bt256.2) else (none)) else (none))) else ((spec_l1Pick.f x220000 x220001 (([8, 6, 4, 2, 1, 3, 0, 9] : List Int))).bind fun bt262 => (some (x5, bt262.1)))
def spec_DrawSearchPulses.f (k : Nat) (l0 : List Int) : Option (List Int × Int) := (spec_l1Source.f l0).bind fun bt217 => ((spec_l12Draw.f k bt217.1 bt217.2).bind fun bt220 => ((spec_l1Next.f bt217.1 bt220.2 14).bind fun bt224 => (if bt224.1 = 0 then ((spec_l1Pick.f bt217.1 bt224.2 (([16777216, (-16777216), 16777217] : List Int))).bind fun bt229 => (if 0 < (bt220.1.length : Int) then ((spec_l1Pick.f bt217.1 bt229.2 (([8, 6, 4, 2, 1, 3, 0, 9] : List Int))).bind fun bt235 => (some ((bt220.1.set (0 : Int).toNat bt229.1), bt235.1))) else (none))) else (if bt224.1 = 1 then ((some (([0, 0, 0] : List Int) : List Int)).bind fun y237 => (if bt220.1.length + y237.length < 17592186044416 then ((spec_l1Pick.f bt217.1 bt224.2 (([8, 6, 4, 2, 1, 3, 0, 9] : List Int))).bind fun bt246 => (some ((bt220.1 ++ y237), bt246.1))) else (none))) else (if bt224.1 = 2 then ((spec_l1Pick.f bt217.1 bt224.2 (([8, 6, 4, 2, 1, 3, 0, 9] : List Int))).bind fun bt251 => (some (([] : List Int), bt251.1))) else (if bt224.1 = 3 then (spec_DrawSearchPulses.l0 k bt220.1 (bt220.1.length : Int) 0 bt217.1 bt224.2) else ((spec_l1Pick.f bt217.1 bt224.2 (([8, 6, 4, 2, 1, 3, 0, 9] : List Int))).bind fun bt267 => (some (bt220.1, bt267.1)))))))))
theorem spec_DrawSearchPulses.mono_l : ∀ k, (∀ y0 y1 y2 y3 y4, LeO (spec_DrawSearchPulses.l0 k y0 y1 y2 y3 y4) (spec_DrawSearchPulses.l0 (k + 1) y0 y1 y2 y3 y4))
 | 0 => fun _ _ _ _ _ r h => by simp [spec_DrawSearchPulses.l0] at h
 | k + 1 => by
  have ih0 := spec_DrawSearchPulses.mono_l k
  ·intro y0 y1 y2 y3 y4
   unfold spec_DrawSearchPulses.l0
   repeat' first
   | (with_reducible exact ih0 _ _ _ _ _)
   | (with_reducible exact spec_l12Draw.mono _ _ _)
   | (with_reducible exact LeO.refl _)
   | (with_reducible exact LeO.none _)
   | (with_reducible refine LeO.ite ?_ ?_)
   | (with_reducible refine LeO.bind ?_ (fun _ => ?_))
   | exact ih0 _ _ _ _ _
   | exact spec_l12Draw.mono _ _ _
   | exact LeO.none _
   | refine LeO.ite ?_ ?_
   | refine LeO.bind ?_ (fun _ => ?_)
theorem spec_DrawSearchPulses.mono : ∀ a0 k, LeO (spec_DrawSearchPulses.f k a0) (spec_DrawSearchPulses.f (k + 1) a0) := by
 intro a0 k
 have ih0 := spec_DrawSearchPulses.mono_l k
 unfold spec_DrawSearchPulses.f
 repeat' first
   | (with_reducible exact ih0 _ _ _ _ _)
   | (with_reducible exact spec_l12Draw.mono _ _ _)
   | (with_reducible exact LeO.refl _)
   | (with_reducible exact LeO.none _)
   | (with_reducible refine LeO.ite ?_ ?_)
   | (with_reducible refine LeO.bind ?_ (fun _ => ?_))
   | exact ih0 _ _ _ _ _
   | exact spec_l12Draw.mono _ _ _
   | exact LeO.none _
   | refine LeO.ite ?_ ?_
   | refine LeO.bind ?_ (fun _ => ?_)
set_option maxHeartbeats 8000000 in
set_option maxRecDepth 100000 in
theorem spec_DrawSearchPulses.calls (k : Nat) (A0 : Option Addr) (c0 : Nat) (l0 : List Int) (r1 : List Int) (r2 : Int) (w : World) (hr0 : Kd.C (Kd.int .u8) w A0 l0.length l0) (hc0 : l0.length ≤ c0) (h : spec_DrawSearchPulses.f k l0 = some (r1, r2)) :
  Calls Try.prog 67 #[.slice A0 l0.length c0] w fun e w' => ∃ v0_ : Value, e = .returned (.tuple #[v0_, .int .i64 r2]) ∧ Kd.R (Kd.int .i64) 2 w' w.heap.size (fun _ => True) v0_ r1 ∧ Below w.heap.size w w' := by
 have HR0 := Aside0.mk hr0
 have HC0 := Aside0.mk hc0
 clear hr0 hc0
 have HB := Aside0.mk (Below.refl w.heap.size w)
 have H : ((spec_l1Source.f l0).bind fun bt217 => ((spec_l12Draw.f k bt217.1 bt217.2).bind fun bt220 => ((spec_l1Next.f bt217.1 bt220.2 14).bind fun bt224 => (if bt224.1 = 0 then ((spec_l1Pick.f bt217.1 bt224.2 (([16777216, (-16777216), 16777217] : List Int))).bind fun bt229 => (if 0 < (bt220.1.length : Int) then ((spec_l1Pick.f bt217.1 bt229.2 (([8, 6, 4, 2, 1, 3, 0, 9] : List Int))).bind fun bt235 => (some ((bt220.1.set (0 : Int).toNat bt229.1), bt235.1))) else (none))) else (if bt224.1 = 1 then ((some (([0, 0, 0] : List Int) : List Int)).bind fun y237 => (if bt220.1.length + y237.length < 17592186044416 then ((spec_l1Pick.f bt217.1 bt224.2 (([8, 6, 4, 2, 1, 3, 0, 9] : List Int))).bind fun bt246 => (some ((bt220.1 ++ y237), bt246.1))) else (none))) else (if bt224.1 = 2 then ((spec_l1Pick.f bt217.1 bt224.2 (([8, 6, 4, 2, 1, 3, 0, 9] : List Int))).bind fun bt251 => (some (([] : List Int), bt251.1))) else (if bt224.1 = 3 then (spec_DrawSearchPulses.l0 k bt220.1 (bt220.1.length : Int) 0 bt217.1 bt224.2) else ((spec_l1Pick.f bt217.1 bt224.2 (([8, 6, 4, 2, 1, 3, 0, 9] : List Int))).bind fun bt267 => (some (bt220.1, bt267.1)))))))))) = some (r1, r2) := h
 clear h
 replace H := bnd H
 obtain ⟨⟨t217, t218⟩, A2, H⟩ := H
 replace H : ((spec_l12Draw.f k t217 t218).bind fun bt220 => ((spec_l1Next.f t217 bt220.2 14).bind fun bt224 => (if bt224.1 = 0 then ((spec_l1Pick.f t217 bt224.2 (([16777216, (-16777216), 16777217] : List Int))).bind fun bt229 => (if 0 < (bt220.1.length : Int) then ((spec_l1Pick.f t217 bt229.2 (([8, 6, 4, 2, 1, 3, 0, 9] : List Int))).bind fun bt235 => (some ((bt220.1.set (0 : Int).toNat bt229.1), bt235.1))) else (none))) else (if bt224.1 = 1 then ((some (([0, 0, 0] : List Int) : List Int)).bind fun y237 => (if bt220.1.length + y237.length < 17592186044416 then ((spec_l1Pick.f t217 bt224.2 (([8, 6, 4, 2, 1, 3, 0, 9] : List Int))).bind fun bt246 => (some ((bt220.1 ++ y237), bt246.1))) else (none))) else (if bt224.1 = 2 then ((spec_l1Pick.f t217 bt224.2 (([8, 6, 4, 2, 1, 3, 0, 9] : List Int))).bind fun bt251 => (some (([] : List Int), bt251.1))) else (if bt224.1 = 3 then (spec_DrawSearchPulses.l0 k bt220.1 (bt220.1.length : Int) 0 t217 bt224.2) else ((spec_l1Pick.f t217 bt224.2 (([8, 6, 4, 2, 1, 3, 0, 9] : List Int))).bind fun bt267 => (some (bt220.1, bt267.1))))))))) = some (r1, r2) := H
 replace H := bnd H
 obtain ⟨⟨t220, t223⟩, A3, H⟩ := H
 replace H : ((spec_l1Next.f t217 t223 14).bind fun bt224 => (if bt224.1 = 0 then ((spec_l1Pick.f t217 bt224.2 (([16777216, (-16777216), 16777217] : List Int))).bind fun bt229 => (if 0 < (t220.length : Int) then ((spec_l1Pick.f t217 bt229.2 (([8, 6, 4, 2, 1, 3, 0, 9] : List Int))).bind fun bt235 => (some ((t220.set (0 : Int).toNat bt229.1), bt235.1))) else (none))) else (if bt224.1 = 1 then ((some (([0, 0, 0] : List Int) : List Int)).bind fun y237 => (if t220.length + y237.length < 17592186044416 then ((spec_l1Pick.f t217 bt224.2 (([8, 6, 4, 2, 1, 3, 0, 9] : List Int))).bind fun bt246 => (some ((t220 ++ y237), bt246.1))) else (none))) else (if bt224.1 = 2 then ((spec_l1Pick.f t217 bt224.2 (([8, 6, 4, 2, 1, 3, 0, 9] : List Int))).bind fun bt251 => (some (([] : List Int), bt251.1))) else (if bt224.1 = 3 then (spec_DrawSearchPulses.l0 k t220 (t220.length : Int) 0 t217 bt224.2) else ((spec_l1Pick.f t217 bt224.2 (([8, 6, 4, 2, 1, 3, 0, 9] : List Int))).bind fun bt267 => (some (t220, bt267.1)))))))) = some (r1, r2) := H
 replace H := bnd H
 obtain ⟨⟨t224, t225⟩, A4, H⟩ := H
 replace H : (if t224 = 0 then ((spec_l1Pick.f t217 t225 (([16777216, (-16777216), 16777217] : List Int))).bind fun bt229 => (if 0 < (t220.length : Int) then ((spec_l1Pick.f t217 bt229.2 (([8, 6, 4, 2, 1, 3, 0, 9] : List Int))).bind fun bt235 => (some ((t220.set (0 : Int).toNat bt229.1), bt235.1))) else (none))) else (if t224 = 1 then ((some (([0, 0, 0] : List Int) : List Int)).bind fun y237 => (if t220.length + y237.length < 17592186044416 then ((spec_l1Pick.f t217 t225 (([8, 6, 4, 2, 1, 3, 0, 9] : List Int))).bind fun bt246 => (some ((t220 ++ y237), bt246.1))) else (none))) else (if t224 = 2 then ((spec_l1Pick.f t217 t225 (([8, 6, 4, 2, 1, 3, 0, 9] : List Int))).bind fun bt251 => (some (([] : List Int), bt251.1))) else (if t224 = 3 then (spec_DrawSearchPulses.l0 k t220 (t220.length : Int) 0 t217 t225) else ((spec_l1Pick.f t217 t225 (([8, 6, 4, 2, 1, 3, 0, 9] : List Int))).bind fun bt267 => (some (t220, bt267.1))))))) = some (r1, r2) := H
 by_cases c5 : t224 = 0
 ·rw [if_pos c5] at H
  have c5b0 : (t224 == 0) = true := beq_iff_eq.mpr c5
  have c5b1 : (t224 != 0) = false := bne_eq_false_iff_eq.mpr c5
  clear c5
  obtain ⟨y226, hy226⟩ : ∃ y_ : List Int, y_ = (([16777216, (-16777216), 16777217] : List Int)) := ⟨_, rfl⟩
  replace H : ((spec_l1Pick.f t217 t225 y226).bind fun bt229 => (if 0 < (t220.length : Int) then ((spec_l1Pick.f t217 bt229.2 (([8, 6, 4, 2, 1, 3, 0, 9] : List Int))).bind fun bt235 => (some ((t220.set (0 : Int).toNat bt229.1), bt235.1))) else (none))) = some (r1, r2) := by first | (rw [hy226]; with_reducible exact H) | (have H2_ := (Option.bind_some _ _).symm.trans H; rw [hy226]; with_reducible exact H2_) | (have H2_ := (Option.bind_some _ _).symm.trans H; with_reducible exact H2_) | with_reducible exact H | (rw [hy226]; exact H) | exact H
  have Ny226 := Aside0.mk hy226
  clear hy226
  replace H := bnd H
  obtain ⟨⟨t229, t230⟩, A6, H⟩ := H
  replace H : (if 0 < (t220.length : Int) then ((spec_l1Pick.f t217 t230 (([8, 6, 4, 2, 1, 3, 0, 9] : List Int))).bind fun bt235 => (some ((t220.set (0 : Int).toNat t229), bt235.1))) else (none)) = some (r1, r2) := H
  by_cases c7 : 0 < (t220.length : Int)
  ·rw [if_pos c7] at H
   have c7b0 : decide (0 < (t220.length : Int)) = true := decide_eq_true c7
   have c7b1 : decide (0 < t220.length) = true := decide_eq_true (by omega)
   clear c7
   obtain ⟨y231, hy231⟩ : ∃ y_ : List Int, y_ = (t220.set (0 : Int).toNat t229) := ⟨_, rfl⟩
   replace H : ((spec_l1Pick.f t217 t230 (([8, 6, 4, 2, 1, 3, 0, 9] : List Int))).bind fun bt235 => (some (y231, bt235.1))) = some (r1, r2) := by first | (rw [hy231]; with_reducible exact H) | (have H2_ := (Option.bind_some _ _).symm.trans H; rw [hy231]; with_reducible exact H2_) | (have H2_ := (Option.bind_some _ _).symm.trans H; with_reducible exact H2_) | with_reducible exact H | (rw [hy231]; exact H) | exact H
   have Ny231 := Aside0.mk hy231
   clear hy231
   obtain ⟨y232, hy232⟩ : ∃ y_ : List Int, y_ = (([8, 6, 4, 2, 1, 3, 0, 9] : List Int)) := ⟨_, rfl⟩
   replace H : ((spec_l1Pick.f t217 t230 y232).bind fun bt235 => (some (y231, bt235.1))) = some (r1, r2) := by first | (rw [hy232]; with_reducible exact H) | (have H2_ := (Option.bind_some _ _).symm.trans H; rw [hy232]; with_reducible exact H2_) | (have H2_ := (Option.bind_some _ _).symm.trans H; with_reducible exact H2_) | with_reducible exact H | (rw [hy232]; exact H) | exact H
   have Ny232 := Aside0.mk hy232
   clear hy232
   replace H := bnd H
   obtain ⟨⟨t235, t236⟩, A9, H⟩ := H
   replace H : (some (y231, t235)) = some (r1, r2) := H
   simp only [Option.some.injEq, Prod.mk.injEq] at H
   obtain ⟨rfl, rfl⟩ := H
   go_enter Try.func67, Try.ntmps67
   go_wp2_with (first | ((with_reducible refine gate_callee (f := 101) rfl ?_); refine gl_ 8 Try.func101 #[.slice A0 l0.length c0] ?_; (with_reducible refine (spec_l1Source.calls _ _ l0 t217 t218 w _ ?_ ?_ ?_ A2.out).mono ?_); exact bnw; exact HR0.out; exact HC0.out; rintro e w10 ⟨g219, rfl, hi, hb, hb2⟩; refine ⟨_, rfl, ?_⟩; replace HB := am hb; have HI219 := am hi; (try clear hb); (try clear hb2); (try clear hi)) | ((with_reducible refine gate_callee (f := 155) rfl ?_); refine gl_ 10 Try.func155 #[.pointer (some ⟨g219, 0, none⟩)] ?_; (with_reducible refine (spec_l12Draw.calls k g219 t217 t218 t220 t223 w _ ?side1 ?side2 A3.out).mono ?_); (case side1 => repeat (first | (with_reducible first | exact HI219.out | apply IsS148.alloc | apply IsS148.drewN | apply IsS148.drew | apply IsS148.set_1) | exact HI219.out)); (case side2 => repeat (first | (with_reducible first | exact HB.out | apply below_alloc | apply pw_below_drewN | apply below_drew1 | refine below_set ?_ (IsS148.ge HI219.out)) | exact HB.out)); rintro e w11 ⟨v221, rfl, ho0, hi, hb, hk⟩; refine ⟨_, rfl, ?_⟩; have HO222 := am (Kd.R_lower ho0 (below_size (by repeat (first | (with_reducible first | exact HB.out | apply below_alloc | apply pw_below_drewN | apply below_drew1 | refine below_set ?_ (IsS148.ge HI219.out)) | exact HB.out)))); replace HB := am hb; replace HI219 := am hi; (try clear hb); (try clear hk); (try clear hi); (try clear ho0)) | ((with_reducible refine gate_callee (f := 124) rfl ?_); refine gl_ 12 Try.func124 #[.pointer (some ⟨g219, 0, none⟩), .int .i64 14] ?_; (with_reducible refine (spec_l1Next.calls g219 t217 t223 14 t224 t225 w _ ?side1 ?side2 A4.out).mono ?_); (case side1 => repeat (first | (with_reducible first | exact HI219.out | apply IsS148.alloc | apply IsS148.drewN | apply IsS148.drew | apply IsS148.set_1) | exact HI219.out)); (case side2 => repeat (first | (with_reducible first | exact HB.out | apply below_alloc | apply pw_below_drewN | apply below_drew1 | refine below_set ?_ (IsS148.ge HI219.out)) | exact HB.out)); rintro e w12 ⟨rfl, hi, hb, hk⟩; refine ⟨_, rfl, ?_⟩; replace HO222 := am (Kd.R_mono (Kd.R_keep (IsS148.apart (show IsS148 w _ g219 t217 t223 from by repeat (first | (with_reducible first | exact HI219.out | apply IsS148.alloc | apply IsS148.drewN | apply IsS148.drew | apply IsS148.set_1) | exact HI219.out)) (rpl HO222.out) (by decide)) hk (fun _ h => h.2)) (fun _ h => h.1)); replace HB := am hb; replace HI219 := am hi; (try clear hb); (try clear hk); (try clear hi)) | ((with_reducible refine gate_dst (N := 17) rfl ?_); refine Kd.R_lit (Kd.int .i64) _ 2 ?hg (N := 17) ?hd (xs := ([16777216, (-16777216), 16777217] : List Int)) (inner := [.int .i64 16777216, .int .i64 (-16777216), .int .i64 16777217]) (ok := fun _ => True) (okp := fun _ => True) ?hr ?hp (fun _ hk => hk) trivial (Below.refl _ _) (Nat.le_refl _) (by simp) ?_; (case hd => rfl); (case hg => rfl); (case hr => first | (go_simp; done) | (go_simp; rfl)); (case hp => exact (Reps.one (show Kd.M (Kd.int .i64) _ _ _ 16777216 [.int .i64 16777216] from rfl) (Reps.one (show Kd.M (Kd.int .i64) _ _ _ (-16777216) [.int .i64 (-16777216)] from rfl) (Reps.one (show Kd.M (Kd.int .i64) _ _ _ 16777217 [.int .i64 16777217] from rfl) (Reps.none _ _))))); intro v227 w13 ho14 hb hg_ hnew_; clear hg_ hnew_; (first | rw [← Ny226.out] at ho14 | (simp only [Int.reduceToNat] at ho14; rw [← Ny226.out] at ho14)); have HO228 := am (Kd.R_lower (Kd.R_new' ho14 (rlt HO222)) (below_size (by repeat (first | (with_reducible first | exact HB.out | apply below_alloc | apply pw_below_drewN | apply below_drew1 | refine below_set ?_ (IsS148.ge HI219.out)) | exact HB.out)))); replace HO222 := rel HO222 ho14 hb; replace HB := am (below_step (by repeat (first | (with_reducible first | exact HB.out | apply below_alloc | apply pw_below_drewN | apply below_drew1 | refine below_set ?_ (IsS148.ge HI219.out)) | exact HB.out)) hb); replace HI219 := am (IsS148.below (by repeat (first | (with_reducible first | exact HI219.out | apply IsS148.alloc | apply IsS148.drewN | apply IsS148.drew | apply IsS148.set_1) | exact HI219.out)) hb); clear hb ho14; obtain ⟨Ao15, co15, eo15⟩ := Kd.R_slice HO228.out; subst eo15) | ((with_reducible refine gate_callee (f := 102) rfl ?_); refine gl_ 18 Try.func102 #[.pointer (some ⟨g219, 0, none⟩), .slice Ao15 y226.length co15] ?_; (with_reducible refine (spec_l1Pick.calls g219 t217 t225 _ _ y226 t229 t230 w _ ?side1 ?side2 ?side3 ?side4 ?side5 A6.out).mono ?_); (case side1 => repeat (first | (with_reducible first | exact HI219.out | apply IsS148.alloc | apply IsS148.drewN | apply IsS148.drew | apply IsS148.set_1) | exact HI219.out)); (case side2 => repeat (first | (with_reducible first | exact HB.out | apply below_alloc | apply pw_below_drewN | apply below_drew1 | refine below_set ?_ (IsS148.ge HI219.out)) | exact HB.out)); (case side3 => exact (Kd.R_reads' HO228.out).2.2); (case side4 => exact (Kd.R_reads' HO228.out).2.1); (case side5 => exact far_slice (IsS148.own_ne HI219.out HO228.out (by decide))); rintro e w16 ⟨rfl, hi, hb, hk⟩; refine ⟨_, rfl, ?_⟩; replace HO222 := am (Kd.R_mono (Kd.R_keep (IsS148.apart (show IsS148 w _ g219 t217 t225 from by repeat (first | (with_reducible first | exact HI219.out | apply IsS148.alloc | apply IsS148.drewN | apply IsS148.drew | apply IsS148.set_1) | exact HI219.out)) (rpl HO222.out) (by decide)) hk (fun _ h => h.2)) (fun _ h => h.1)); replace HO228 := am (Kd.R_mono (Kd.R_keep (IsS148.apart (show IsS148 w _ g219 t217 t225 from by repeat (first | (with_reducible first | exact HI219.out | apply IsS148.alloc | apply IsS148.drewN | apply IsS148.drew | apply IsS148.set_1) | exact HI219.out)) (rpl HO228.out) (by decide)) hk (fun _ h => h.2)) (fun _ h => h.1)); replace HB := am hb; replace HI219 := am hi; (try clear hb); (try clear hk); (try clear hi); have p8 : 0 ≤ (0 : Int) := (by omega); have q8 : (0 : Int) < ((t220.length : Int) : Int) := dta; have qi8 : (0 < t220.length) = True := eq_true (by omega); obtain ⟨go8, co8, eo8, gb8, gl8, cl8, HG8⟩ := Kd.R_form HO222.out (by omega); (first | cases eo8 | (injection eo8 with ea_ en_ ec_; (first | subst ea_ | (injection ea_ with ea_; subst ea_)); subst ec_; clear en_)); have GB8 := Aside0.mk gb8; have GG8 := Aside0.mk HG8; clear gb8 gl8 HG8; obtain ⟨hx8_0, hf8_0⟩ := Kd.R_celln 0 HO222.out (0 : Int) p8 q8; (try rw [show ((0 : Int)).toNat = 0 from rfl] at hx8_0); (try simp only [Nat.reduceMul, Nat.zero_mul, Nat.zero_add, Nat.reduceAdd] at hx8_0); (try rw [show ((0 : Int)).toNat = 0 from rfl] at hf8_0); (try simp only [Nat.reduceMul, Nat.zero_mul, Nat.zero_add, Nat.reduceAdd] at hf8_0); replace p8 := eq_true p8; replace q8 := eq_true q8; have n_ := Aside0.mk (Kd.R_mono (ok' := (fun k_ => some k_ ≠ (.slice Ao15 y226.length co15 : Value).ownBlock)) HO222.out (fun k_ hk => hk.2)); clear HO222; have HO222 := n_; clear n_; obtain ⟨hy17_, hz17_⟩ := Kd.R_celln 0 HO222.out (0 : Int) (by omega) (dta); (try simp only [Int.reduceToNat, Int.toNat_zero, Int.toNat_ofNat, Nat.reduceMul, Nat.zero_mul, Nat.zero_add] at hy17_ hz17_); (try rw [show ((0 : Int)).toNat = 0 from rfl] at hy17_); (try rw [show ((0 : Int)).toNat = 0 from rfl] at hz17_); have HP17 := Kd.R_putg HO222.out (0 : Int) t229) | ((with_reducible refine gate_store (t := 2) (p := 19) rfl ?_); refine store_event (t := 2) (p := 19) (v := ?vo_w18) (w1 := (w16.setCell ⟨go8, (0 : Int).toNat, none⟩ (.int .i64 t229))) ?hg ?ho ?hn ?hr ?_; (case ho => rfl); (case hg => rfl); (case hn => rfl); (case hr => first | (go_simp; done) | (go_simp; rfl)); intro w18 hw; have hg : w16.grownBy w18 (some go8) := (by rw [hw]; exact HP17.2); have hp_ : Kd.R (Kd.int .i64) 2 w18 w.heap.size (fun k_ => some k_ ≠ (.slice Ao15 y226.length co15 : Value).ownBlock) (.slice (some ⟨go8, 0, none⟩) t220.length co8) y231 := (by rw [hw, Ny231.out]; exact HP17.1); clear HP17; replace HI219 := am (IsS148.grown (by repeat (first | (with_reducible first | exact HI219.out | apply IsS148.alloc | apply IsS148.drewN | apply IsS148.drew | apply IsS148.set_1) | exact HI219.out)) hg (IsS148.own_ne HI219.out HO222.out (by decide))); replace HO222 := am hp_; replace HO228 := am (Kd.R_after (v := (.slice (some ⟨go8, 0, none⟩) t220.length co8)) (v1 := (.slice (some ⟨go8, 0, none⟩) t220.length co8)) (ok := (fun _ => True)) (rpl HO228.out) hg (.inl rfl)); replace HB := am (by rw [hw]; exact below_set (HB.out) GB8.out : Below w.heap.size w w18); clear hg hw hp_) | ((with_reducible refine gate_dst (N := 43) rfl ?_); refine Kd.R_lit (Kd.int .i64) _ 2 ?hg (N := 43) ?hd (xs := ([8, 6, 4, 2, 1, 3, 0, 9] : List Int)) (inner := [.int .i64 8, .int .i64 6, .int .i64 4, .int .i64 2, .int .i64 1, .int .i64 3, .int .i64 0, .int .i64 9]) (ok := fun _ => True) (okp := fun _ => True) ?hr ?hp (fun _ hk => hk) trivial (Below.refl _ _) (Nat.le_refl _) (by simp) ?_; (case hd => rfl); (case hg => rfl); (case hr => first | (go_simp; done) | (go_simp; rfl)); (case hp => exact (Reps.one (show Kd.M (Kd.int .i64) _ _ _ 8 [.int .i64 8] from rfl) (Reps.one (show Kd.M (Kd.int .i64) _ _ _ 6 [.int .i64 6] from rfl) (Reps.one (show Kd.M (Kd.int .i64) _ _ _ 4 [.int .i64 4] from rfl) (Reps.one (show Kd.M (Kd.int .i64) _ _ _ 2 [.int .i64 2] from rfl) (Reps.one (show Kd.M (Kd.int .i64) _ _ _ 1 [.int .i64 1] from rfl) (Reps.one (show Kd.M (Kd.int .i64) _ _ _ 3 [.int .i64 3] from rfl) (Reps.one (show Kd.M (Kd.int .i64) _ _ _ 0 [.int .i64 0] from rfl) (Reps.one (show Kd.M (Kd.int .i64) _ _ _ 9 [.int .i64 9] from rfl) (Reps.none _ _)))))))))); intro v233 w19 ho20 hb hg_ hnew_; clear hg_ hnew_; (first | rw [← Ny232.out] at ho20 | (simp only [Int.reduceToNat] at ho20; rw [← Ny232.out] at ho20)); have HO234 := am (Kd.R_lower (Kd.R_new' (Kd.R_new' ho20 (rlt HO222)) (rlt HO228)) (below_size (by repeat (first | (with_reducible first | exact HB.out | apply below_alloc | apply pw_below_drewN | apply below_drew1 | refine below_set ?_ (IsS148.ge HI219.out)) | exact HB.out)))); replace HO222 := rel HO222 ho20 hb; replace HO228 := rel HO228 ho20 hb; replace HB := am (below_step (by repeat (first | (with_reducible first | exact HB.out | apply below_alloc | apply pw_below_drewN | apply below_drew1 | refine below_set ?_ (IsS148.ge HI219.out)) | exact HB.out)) hb); replace HI219 := am (IsS148.below (by repeat (first | (with_reducible first | exact HI219.out | apply IsS148.alloc | apply IsS148.drewN | apply IsS148.drew | apply IsS148.set_1) | exact HI219.out)) hb); clear hb ho20; obtain ⟨Ao21, co21, eo21⟩ := Kd.R_slice HO234.out; subst eo21) | ((with_reducible refine gate_callee (f := 102) rfl ?_); refine gl_ 44 Try.func102 #[.pointer (some ⟨g219, 0, none⟩), .slice Ao21 y232.length co21] ?_; (with_reducible refine (spec_l1Pick.calls g219 t217 t230 _ _ y232 t235 t236 w _ ?side1 ?side2 ?side3 ?side4 ?side5 A9.out).mono ?_); (case side1 => repeat (first | (with_reducible first | exact HI219.out | apply IsS148.alloc | apply IsS148.drewN | apply IsS148.drew | apply IsS148.set_1) | exact HI219.out)); (case side2 => repeat (first | (with_reducible first | exact HB.out | apply below_alloc | apply pw_below_drewN | apply below_drew1 | refine below_set ?_ (IsS148.ge HI219.out)) | exact HB.out)); (case side3 => exact (Kd.R_reads' HO234.out).2.2); (case side4 => exact (Kd.R_reads' HO234.out).2.1); (case side5 => exact far_slice (IsS148.own_ne HI219.out HO234.out (by decide))); rintro e w22 ⟨rfl, hi, hb, hk⟩; refine ⟨_, rfl, ?_⟩; replace HO222 := am (Kd.R_mono (Kd.R_keep (IsS148.apart (show IsS148 w _ g219 t217 t230 from by repeat (first | (with_reducible first | exact HI219.out | apply IsS148.alloc | apply IsS148.drewN | apply IsS148.drew | apply IsS148.set_1) | exact HI219.out)) (rpl HO222.out) (by decide)) hk (fun _ h => h.2)) (fun _ h => h.1)); replace HO228 := am (Kd.R_mono (Kd.R_keep (IsS148.apart (show IsS148 w _ g219 t217 t230 from by repeat (first | (with_reducible first | exact HI219.out | apply IsS148.alloc | apply IsS148.drewN | apply IsS148.drew | apply IsS148.set_1) | exact HI219.out)) (rpl HO228.out) (by decide)) hk (fun _ h => h.2)) (fun _ h => h.1)); replace HO234 := am (Kd.R_mono (Kd.R_keep (IsS148.apart (show IsS148 w _ g219 t217 t230 from by repeat (first | (with_reducible first | exact HI219.out | apply IsS148.alloc | apply IsS148.drewN | apply IsS148.drew | apply IsS148.set_1) | exact HI219.out)) (rpl HO234.out) (by decide)) hk (fun _ h => h.2)) (fun _ h => h.1)); replace HB := am hb; replace HI219 := am hi; (try clear hb); (try clear hk); (try clear hi)))
   go_ret2
   exact ⟨_, enq, Kd.R_mono HO222.out (fun _ hk => trivial), by repeat (first | (with_reducible first | exact HB.out | apply below_alloc | apply pw_below_drewN | apply below_drew1 | refine below_set ?_ (IsS148.ge HI219.out)) | exact HB.out)⟩
  ·rw [if_neg c7] at H
   exact absurd H (by simp)
 ·rw [if_neg c5] at H
  have c5b0 : (t224 == 0) = false := beq_eq_false_iff_ne.mpr c5
  have c5b1 : (t224 != 0) = true := bne_iff_ne.mpr c5
  by_cases c23 : t224 = 1
  ·rw [if_pos c23] at H
   have c23b0 : (t224 == 1) = true := beq_iff_eq.mpr c23
   have c23b1 : (t224 != 1) = false := bne_eq_false_iff_eq.mpr c23
   clear c23
   obtain ⟨y237, hy237⟩ : ∃ y_ : List Int, y_ = (([0, 0, 0] : List Int)) := ⟨_, rfl⟩
   replace H : (if t220.length + y237.length < 17592186044416 then ((spec_l1Pick.f t217 t225 (([8, 6, 4, 2, 1, 3, 0, 9] : List Int))).bind fun bt246 => (some ((t220 ++ y237), bt246.1))) else (none)) = some (r1, r2) := by first | (rw [hy237]; with_reducible exact H) | (have H2_ := (Option.bind_some _ _).symm.trans H; rw [hy237]; with_reducible exact H2_) | (have H2_ := (Option.bind_some _ _).symm.trans H; with_reducible exact H2_) | with_reducible exact H | (rw [hy237]; exact H) | exact H
   have Ny237 := Aside0.mk hy237
   clear hy237
   by_cases c24 : t220.length + y237.length < 17592186044416
   ·rw [if_pos c24] at H
    have LMc24 := Aside0.mk c24
    clear c24
    obtain ⟨y240, hy240⟩ : ∃ y_ : List Int, y_ = (t220 ++ y237) := ⟨_, rfl⟩
    replace H : ((spec_l1Pick.f t217 t225 (([8, 6, 4, 2, 1, 3, 0, 9] : List Int))).bind fun bt246 => (some (y240, bt246.1))) = some (r1, r2) := by first | (rw [hy240]; with_reducible exact H) | (have H2_ := (Option.bind_some _ _).symm.trans H; rw [hy240]; with_reducible exact H2_) | (have H2_ := (Option.bind_some _ _).symm.trans H; with_reducible exact H2_) | with_reducible exact H | (rw [hy240]; exact H) | exact H
    have Ny240 := Aside0.mk hy240
    clear hy240
    obtain ⟨y243, hy243⟩ : ∃ y_ : List Int, y_ = (([8, 6, 4, 2, 1, 3, 0, 9] : List Int)) := ⟨_, rfl⟩
    replace H : ((spec_l1Pick.f t217 t225 y243).bind fun bt246 => (some (y240, bt246.1))) = some (r1, r2) := by first | (rw [hy243]; with_reducible exact H) | (have H2_ := (Option.bind_some _ _).symm.trans H; rw [hy243]; with_reducible exact H2_) | (have H2_ := (Option.bind_some _ _).symm.trans H; with_reducible exact H2_) | with_reducible exact H | (rw [hy243]; exact H) | exact H
    have Ny243 := Aside0.mk hy243
    clear hy243
    replace H := bnd H
    obtain ⟨⟨t246, t247⟩, A25, H⟩ := H
    replace H : (some (y240, t246)) = some (r1, r2) := H
    simp only [Option.some.injEq, Prod.mk.injEq] at H
    obtain ⟨rfl, rfl⟩ := H
    go_enter Try.func67, Try.ntmps67
    go_wp2_with (first | ((with_reducible refine gate_callee (f := 101) rfl ?_); refine gl_ 8 Try.func101 #[.slice A0 l0.length c0] ?_; (with_reducible refine (spec_l1Source.calls _ _ l0 t217 t218 w _ ?_ ?_ ?_ A2.out).mono ?_); exact bnw; exact HR0.out; exact HC0.out; rintro e w26 ⟨g219, rfl, hi, hb, hb2⟩; refine ⟨_, rfl, ?_⟩; replace HB := am hb; have HI219 := am hi; (try clear hb); (try clear hb2); (try clear hi)) | ((with_reducible refine gate_callee (f := 155) rfl ?_); refine gl_ 10 Try.func155 #[.pointer (some ⟨g219, 0, none⟩)] ?_; (with_reducible refine (spec_l12Draw.calls k g219 t217 t218 t220 t223 w _ ?side1 ?side2 A3.out).mono ?_); (case side1 => repeat (first | (with_reducible first | exact HI219.out | apply IsS148.alloc | apply IsS148.drewN | apply IsS148.drew | apply IsS148.set_1) | exact HI219.out)); (case side2 => repeat (first | (with_reducible first | exact HB.out | apply below_alloc | apply pw_below_drewN | apply below_drew1 | refine below_set ?_ (IsS148.ge HI219.out)) | exact HB.out)); rintro e w27 ⟨v221, rfl, ho0, hi, hb, hk⟩; refine ⟨_, rfl, ?_⟩; have HO222 := am (Kd.R_lower ho0 (below_size (by repeat (first | (with_reducible first | exact HB.out | apply below_alloc | apply pw_below_drewN | apply below_drew1 | refine below_set ?_ (IsS148.ge HI219.out)) | exact HB.out)))); replace HB := am hb; replace HI219 := am hi; (try clear hb); (try clear hk); (try clear hi); (try clear ho0)) | ((with_reducible refine gate_callee (f := 124) rfl ?_); refine gl_ 12 Try.func124 #[.pointer (some ⟨g219, 0, none⟩), .int .i64 14] ?_; (with_reducible refine (spec_l1Next.calls g219 t217 t223 14 t224 t225 w _ ?side1 ?side2 A4.out).mono ?_); (case side1 => repeat (first | (with_reducible first | exact HI219.out | apply IsS148.alloc | apply IsS148.drewN | apply IsS148.drew | apply IsS148.set_1) | exact HI219.out)); (case side2 => repeat (first | (with_reducible first | exact HB.out | apply below_alloc | apply pw_below_drewN | apply below_drew1 | refine below_set ?_ (IsS148.ge HI219.out)) | exact HB.out)); rintro e w28 ⟨rfl, hi, hb, hk⟩; refine ⟨_, rfl, ?_⟩; replace HO222 := am (Kd.R_mono (Kd.R_keep (IsS148.apart (show IsS148 w _ g219 t217 t223 from by repeat (first | (with_reducible first | exact HI219.out | apply IsS148.alloc | apply IsS148.drewN | apply IsS148.drew | apply IsS148.set_1) | exact HI219.out)) (rpl HO222.out) (by decide)) hk (fun _ h => h.2)) (fun _ h => h.1)); replace HB := am hb; replace HI219 := am hi; (try clear hb); (try clear hk); (try clear hi)) | ((with_reducible refine gate_dst (N := 23) rfl ?_); refine Kd.R_lit (Kd.int .i64) _ 2 ?hg (N := 23) ?hd (xs := ([0, 0, 0] : List Int)) (inner := [.int .i64 0, .int .i64 0, .int .i64 0]) (ok := fun _ => True) (okp := fun _ => True) ?hr ?hp (fun _ hk => hk) trivial (Below.refl _ _) (Nat.le_refl _) (by simp) ?_; (case hd => rfl); (case hg => rfl); (case hr => first | (go_simp; done) | (go_simp; rfl)); (case hp => exact (Reps.one (show Kd.M (Kd.int .i64) _ _ _ 0 [.int .i64 0] from rfl) (Reps.one (show Kd.M (Kd.int .i64) _ _ _ 0 [.int .i64 0] from rfl) (Reps.one (show Kd.M (Kd.int .i64) _ _ _ 0 [.int .i64 0] from rfl) (Reps.none _ _))))); intro v238 w29 ho30 hb hg_ hnew_; clear hg_ hnew_; (first | rw [← Ny237.out] at ho30 | (simp only [Int.reduceToNat] at ho30; rw [← Ny237.out] at ho30)); have HO239 := am (Kd.R_lower (Kd.R_new' ho30 (rlt HO222)) (below_size (by repeat (first | (with_reducible first | exact HB.out | apply below_alloc | apply pw_below_drewN | apply below_drew1 | refine below_set ?_ (IsS148.ge HI219.out)) | exact HB.out)))); replace HO222 := rel HO222 ho30 hb; replace HB := am (below_step (by repeat (first | (with_reducible first | exact HB.out | apply below_alloc | apply pw_below_drewN | apply below_drew1 | refine below_set ?_ (IsS148.ge HI219.out)) | exact HB.out)) hb); replace HI219 := am (IsS148.below (by repeat (first | (with_reducible first | exact HI219.out | apply IsS148.alloc | apply IsS148.drewN | apply IsS148.drew | apply IsS148.set_1) | exact HI219.out)) hb); clear hb ho30; obtain ⟨Ao32, co32, eo32⟩ := Kd.R_slice HO239.out; subst eo32) | ((with_reducible refine gate_builtin (b := .append) (xs := #[.tmp 22, .tmp 23]) rfl ?_); at_builtin; refine Kd.R_append_rows (Kd.int .i64) (w0 := w) w.heap.size rfl (.tmp 22) (.tmp 23) 26 2 (.int .i64 0) 8 rfl Try.underlying26 info2 rfl (by decide) (by omega) v221 t220 y237 _ _ _ (fun k_ => some k_ ≠ (.slice Ao32 y237.length co32 : Value).ownBlock) (fun _ => False) rfl rfl ?aO ?aR (fun _ _ h => h) (fun _ h => h.elim) ?aF ?aB ?aS ?aL ?_; (case aR => exact (Kd.R_reads' HO239.out).2.2); (case aB => exact (by repeat (first | (with_reducible first | exact HB.out | apply below_alloc | apply pw_below_drewN | apply below_drew1 | refine below_set ?_ (IsS148.ge HI219.out)) | exact HB.out))); (case aF => exact (fun k_ hk => Kd.fresh' (Kd.R_lt (rpl HO239.out)) k_ hk)); (case aO => exact (Kd.R_mono HO222.out (fun _ hk => hk.2))); (case aS => exact (below_size (by repeat (first | (with_reducible first | exact HB.out | apply below_alloc | apply pw_below_drewN | apply below_drew1 | refine below_set ?_ (IsS148.ge HI219.out)) | exact HB.out)))); (case aL => have := LMc24.out; omega); intro v241 w31 ho hb hg hat; rw [← Ny240.out] at ho; replace HI219 := am (IsS148.grown (by repeat (first | (with_reducible first | exact HI219.out | apply IsS148.alloc | apply IsS148.drewN | apply IsS148.drew | apply IsS148.set_1) | exact HI219.out)) hg (IsS148.own_ne HI219.out HO222.out (by decide))); replace HO239 := am (Kd.R_after (ok := (fun _ => True)) (rpl HO239.out) hg hat); replace HB := am hb; have HO242 := am ho; clear HO222 ho hb hg hat) | ((with_reducible refine gate_dst (N := 43) rfl ?_); refine Kd.R_lit (Kd.int .i64) _ 2 ?hg (N := 43) ?hd (xs := ([8, 6, 4, 2, 1, 3, 0, 9] : List Int)) (inner := [.int .i64 8, .int .i64 6, .int .i64 4, .int .i64 2, .int .i64 1, .int .i64 3, .int .i64 0, .int .i64 9]) (ok := fun _ => True) (okp := fun _ => True) ?hr ?hp (fun _ hk => hk) trivial (Below.refl _ _) (Nat.le_refl _) (by simp) ?_; (case hd => rfl); (case hg => rfl); (case hr => first | (go_simp; done) | (go_simp; rfl)); (case hp => exact (Reps.one (show Kd.M (Kd.int .i64) _ _ _ 8 [.int .i64 8] from rfl) (Reps.one (show Kd.M (Kd.int .i64) _ _ _ 6 [.int .i64 6] from rfl) (Reps.one (show Kd.M (Kd.int .i64) _ _ _ 4 [.int .i64 4] from rfl) (Reps.one (show Kd.M (Kd.int .i64) _ _ _ 2 [.int .i64 2] from rfl) (Reps.one (show Kd.M (Kd.int .i64) _ _ _ 1 [.int .i64 1] from rfl) (Reps.one (show Kd.M (Kd.int .i64) _ _ _ 3 [.int .i64 3] from rfl) (Reps.one (show Kd.M (Kd.int .i64) _ _ _ 0 [.int .i64 0] from rfl) (Reps.one (show Kd.M (Kd.int .i64) _ _ _ 9 [.int .i64 9] from rfl) (Reps.none _ _)))))))))); intro v244 w33 ho34 hb hg_ hnew_; clear hg_ hnew_; (first | rw [← Ny243.out] at ho34 | (simp only [Int.reduceToNat] at ho34; rw [← Ny243.out] at ho34)); have HO245 := am (Kd.R_lower (Kd.R_new' (Kd.R_new' ho34 (rlt HO239)) (rlt HO242)) (below_size (by repeat (first | (with_reducible first | exact HB.out | apply below_alloc | apply pw_below_drewN | apply below_drew1 | refine below_set ?_ (IsS148.ge HI219.out)) | exact HB.out)))); replace HO239 := rel HO239 ho34 hb; replace HO242 := rel HO242 ho34 hb; replace HB := am (below_step (by repeat (first | (with_reducible first | exact HB.out | apply below_alloc | apply pw_below_drewN | apply below_drew1 | refine below_set ?_ (IsS148.ge HI219.out)) | exact HB.out)) hb); replace HI219 := am (IsS148.below (by repeat (first | (with_reducible first | exact HI219.out | apply IsS148.alloc | apply IsS148.drewN | apply IsS148.drew | apply IsS148.set_1) | exact HI219.out)) hb); clear hb ho34; obtain ⟨Ao35, co35, eo35⟩ := Kd.R_slice HO245.out; subst eo35) | ((with_reducible refine gate_callee (f := 102) rfl ?_); refine gl_ 44 Try.func102 #[.pointer (some ⟨g219, 0, none⟩), .slice Ao35 y243.length co35] ?_; (with_reducible refine (spec_l1Pick.calls g219 t217 t225 _ _ y243 t246 t247 w _ ?side1 ?side2 ?side3 ?side4 ?side5 A25.out).mono ?_); (case side1 => repeat (first | (with_reducible first | exact HI219.out | apply IsS148.alloc | apply IsS148.drewN | apply IsS148.drew | apply IsS148.set_1) | exact HI219.out)); (case side2 => repeat (first | (with_reducible first | exact HB.out | apply below_alloc | apply pw_below_drewN | apply below_drew1 | refine below_set ?_ (IsS148.ge HI219.out)) | exact HB.out)); (case side3 => exact (Kd.R_reads' HO245.out).2.2); (case side4 => exact (Kd.R_reads' HO245.out).2.1); (case side5 => exact far_slice (IsS148.own_ne HI219.out HO245.out (by decide))); rintro e w36 ⟨rfl, hi, hb, hk⟩; refine ⟨_, rfl, ?_⟩; replace HO239 := am (Kd.R_mono (Kd.R_keep (IsS148.apart (show IsS148 w _ g219 t217 t225 from by repeat (first | (with_reducible first | exact HI219.out | apply IsS148.alloc | apply IsS148.drewN | apply IsS148.drew | apply IsS148.set_1) | exact HI219.out)) (rpl HO239.out) (by decide)) hk (fun _ h => h.2)) (fun _ h => h.1)); replace HO242 := am (Kd.R_mono (Kd.R_keep (IsS148.apart (show IsS148 w _ g219 t217 t225 from by repeat (first | (with_reducible first | exact HI219.out | apply IsS148.alloc | apply IsS148.drewN | apply IsS148.drew | apply IsS148.set_1) | exact HI219.out)) (rpl HO242.out) (by decide)) hk (fun _ h => h.2)) (fun _ h => h.1)); replace HO245 := am (Kd.R_mono (Kd.R_keep (IsS148.apart (show IsS148 w _ g219 t217 t225 from by repeat (first | (with_reducible first | exact HI219.out | apply IsS148.alloc | apply IsS148.drewN | apply IsS148.drew | apply IsS148.set_1) | exact HI219.out)) (rpl HO245.out) (by decide)) hk (fun _ h => h.2)) (fun _ h => h.1)); replace HB := am hb; replace HI219 := am hi; (try clear hb); (try clear hk); (try clear hi)))
    go_ret2
    exact ⟨_, enq, Kd.R_mono HO242.out (fun _ hk => trivial), by repeat (first | (with_reducible first | exact HB.out | apply below_alloc | apply pw_below_drewN | apply below_drew1 | refine below_set ?_ (IsS148.ge HI219.out)) | exact HB.out)⟩
   ·rw [if_neg c24] at H
    exact absurd H (by simp)
  ·rw [if_neg c23] at H
   have c23b0 : (t224 == 1) = false := beq_eq_false_iff_ne.mpr c23
   have c23b1 : (t224 != 1) = true := bne_iff_ne.mpr c23
   by_cases c37 : t224 = 2
   ·rw [if_pos c37] at H
    have c37b0 : (t224 == 2) = true := beq_iff_eq.mpr c37
    have c37b1 : (t224 != 2) = false := bne_eq_false_iff_eq.mpr c37
    clear c37
    obtain ⟨y248, hy248⟩ : ∃ y_ : List Int, y_ = (([8, 6, 4, 2, 1, 3, 0, 9] : List Int)) := ⟨_, rfl⟩
    replace H : ((spec_l1Pick.f t217 t225 y248).bind fun bt251 => (some (([] : List Int), bt251.1))) = some (r1, r2) := by first | (rw [hy248]; with_reducible exact H) | (have H2_ := (Option.bind_some _ _).symm.trans H; rw [hy248]; with_reducible exact H2_) | (have H2_ := (Option.bind_some _ _).symm.trans H; with_reducible exact H2_) | with_reducible exact H | (rw [hy248]; exact H) | exact H
    have Ny248 := Aside0.mk hy248
    clear hy248
    replace H := bnd H
    obtain ⟨⟨t251, t252⟩, A38, H⟩ := H
    replace H : (some (([] : List Int), t251)) = some (r1, r2) := H
    simp only [Option.some.injEq, Prod.mk.injEq] at H
    obtain ⟨rfl, rfl⟩ := H
    go_enter Try.func67, Try.ntmps67
    go_wp2_with (first | ((with_reducible refine gate_callee (f := 101) rfl ?_); refine gl_ 8 Try.func101 #[.slice A0 l0.length c0] ?_; (with_reducible refine (spec_l1Source.calls _ _ l0 t217 t218 w _ ?_ ?_ ?_ A2.out).mono ?_); exact bnw; exact HR0.out; exact HC0.out; rintro e w39 ⟨g219, rfl, hi, hb, hb2⟩; refine ⟨_, rfl, ?_⟩; replace HB := am hb; have HI219 := am hi; (try clear hb); (try clear hb2); (try clear hi)) | ((with_reducible refine gate_callee (f := 155) rfl ?_); refine gl_ 10 Try.func155 #[.pointer (some ⟨g219, 0, none⟩)] ?_; (with_reducible refine (spec_l12Draw.calls k g219 t217 t218 t220 t223 w _ ?side1 ?side2 A3.out).mono ?_); (case side1 => repeat (first | (with_reducible first | exact HI219.out | apply IsS148.alloc | apply IsS148.drewN | apply IsS148.drew | apply IsS148.set_1) | exact HI219.out)); (case side2 => repeat (first | (with_reducible first | exact HB.out | apply below_alloc | apply pw_below_drewN | apply below_drew1 | refine below_set ?_ (IsS148.ge HI219.out)) | exact HB.out)); rintro e w40 ⟨v221, rfl, ho0, hi, hb, hk⟩; refine ⟨_, rfl, ?_⟩; have HO222 := am (Kd.R_lower ho0 (below_size (by repeat (first | (with_reducible first | exact HB.out | apply below_alloc | apply pw_below_drewN | apply below_drew1 | refine below_set ?_ (IsS148.ge HI219.out)) | exact HB.out)))); replace HB := am hb; replace HI219 := am hi; (try clear hb); (try clear hk); (try clear hi); (try clear ho0)) | ((with_reducible refine gate_callee (f := 124) rfl ?_); refine gl_ 12 Try.func124 #[.pointer (some ⟨g219, 0, none⟩), .int .i64 14] ?_; (with_reducible refine (spec_l1Next.calls g219 t217 t223 14 t224 t225 w _ ?side1 ?side2 A4.out).mono ?_); (case side1 => repeat (first | (with_reducible first | exact HI219.out | apply IsS148.alloc | apply IsS148.drewN | apply IsS148.drew | apply IsS148.set_1) | exact HI219.out)); (case side2 => repeat (first | (with_reducible first | exact HB.out | apply below_alloc | apply pw_below_drewN | apply below_drew1 | refine below_set ?_ (IsS148.ge HI219.out)) | exact HB.out)); rintro e w41 ⟨rfl, hi, hb, hk⟩; refine ⟨_, rfl, ?_⟩; replace HO222 := am (Kd.R_mono (Kd.R_keep (IsS148.apart (show IsS148 w _ g219 t217 t223 from by repeat (first | (with_reducible first | exact HI219.out | apply IsS148.alloc | apply IsS148.drewN | apply IsS148.drew | apply IsS148.set_1) | exact HI219.out)) (rpl HO222.out) (by decide)) hk (fun _ h => h.2)) (fun _ h => h.1)); replace HB := am hb; replace HI219 := am hi; (try clear hb); (try clear hk); (try clear hi)) | ((with_reducible refine gate_dst (N := 43) rfl ?_); refine Kd.R_lit (Kd.int .i64) _ 2 ?hg (N := 43) ?hd (xs := ([8, 6, 4, 2, 1, 3, 0, 9] : List Int)) (inner := [.int .i64 8, .int .i64 6, .int .i64 4, .int .i64 2, .int .i64 1, .int .i64 3, .int .i64 0, .int .i64 9]) (ok := fun _ => True) (okp := fun _ => True) ?hr ?hp (fun _ hk => hk) trivial (Below.refl _ _) (Nat.le_refl _) (by simp) ?_; (case hd => rfl); (case hg => rfl); (case hr => first | (go_simp; done) | (go_simp; rfl)); (case hp => exact (Reps.one (show Kd.M (Kd.int .i64) _ _ _ 8 [.int .i64 8] from rfl) (Reps.one (show Kd.M (Kd.int .i64) _ _ _ 6 [.int .i64 6] from rfl) (Reps.one (show Kd.M (Kd.int .i64) _ _ _ 4 [.int .i64 4] from rfl) (Reps.one (show Kd.M (Kd.int .i64) _ _ _ 2 [.int .i64 2] from rfl) (Reps.one (show Kd.M (Kd.int .i64) _ _ _ 1 [.int .i64 1] from rfl) (Reps.one (show Kd.M (Kd.int .i64) _ _ _ 3 [.int .i64 3] from rfl) (Reps.one (show Kd.M (Kd.int .i64) _ _ _ 0 [.int .i64 0] from rfl) (Reps.one (show Kd.M (Kd.int .i64) _ _ _ 9 [.int .i64 9] from rfl) (Reps.none _ _)))))))))); intro v249 w42 ho43 hb hg_ hnew_; clear hg_ hnew_; (first | rw [← Ny248.out] at ho43 | (simp only [Int.reduceToNat] at ho43; rw [← Ny248.out] at ho43)); have HO250 := am (Kd.R_lower (Kd.R_new' ho43 (rlt HO222)) (below_size (by repeat (first | (with_reducible first | exact HB.out | apply below_alloc | apply pw_below_drewN | apply below_drew1 | refine below_set ?_ (IsS148.ge HI219.out)) | exact HB.out)))); replace HO222 := rel HO222 ho43 hb; replace HB := am (below_step (by repeat (first | (with_reducible first | exact HB.out | apply below_alloc | apply pw_below_drewN | apply below_drew1 | refine below_set ?_ (IsS148.ge HI219.out)) | exact HB.out)) hb); replace HI219 := am (IsS148.below (by repeat (first | (with_reducible first | exact HI219.out | apply IsS148.alloc | apply IsS148.drewN | apply IsS148.drew | apply IsS148.set_1) | exact HI219.out)) hb); clear hb ho43; obtain ⟨Ao44, co44, eo44⟩ := Kd.R_slice HO250.out; subst eo44) | ((with_reducible refine gate_callee (f := 102) rfl ?_); refine gl_ 44 Try.func102 #[.pointer (some ⟨g219, 0, none⟩), .slice Ao44 y248.length co44] ?_; (with_reducible refine (spec_l1Pick.calls g219 t217 t225 _ _ y248 t251 t252 w _ ?side1 ?side2 ?side3 ?side4 ?side5 A38.out).mono ?_); (case side1 => repeat (first | (with_reducible first | exact HI219.out | apply IsS148.alloc | apply IsS148.drewN | apply IsS148.drew | apply IsS148.set_1) | exact HI219.out)); (case side2 => repeat (first | (with_reducible first | exact HB.out | apply below_alloc | apply pw_below_drewN | apply below_drew1 | refine below_set ?_ (IsS148.ge HI219.out)) | exact HB.out)); (case side3 => exact (Kd.R_reads' HO250.out).2.2); (case side4 => exact (Kd.R_reads' HO250.out).2.1); (case side5 => exact far_slice (IsS148.own_ne HI219.out HO250.out (by decide))); rintro e w45 ⟨rfl, hi, hb, hk⟩; refine ⟨_, rfl, ?_⟩; replace HO222 := am (Kd.R_mono (Kd.R_keep (IsS148.apart (show IsS148 w _ g219 t217 t225 from by repeat (first | (with_reducible first | exact HI219.out | apply IsS148.alloc | apply IsS148.drewN | apply IsS148.drew | apply IsS148.set_1) | exact HI219.out)) (rpl HO222.out) (by decide)) hk (fun _ h => h.2)) (fun _ h => h.1)); replace HO250 := am (Kd.R_mono (Kd.R_keep (IsS148.apart (show IsS148 w _ g219 t217 t225 from by repeat (first | (with_reducible first | exact HI219.out | apply IsS148.alloc | apply IsS148.drewN | apply IsS148.drew | apply IsS148.set_1) | exact HI219.out)) (rpl HO250.out) (by decide)) hk (fun _ h => h.2)) (fun _ h => h.1)); replace HB := am hb; replace HI219 := am hi; (try clear hb); (try clear hk); (try clear hi)))
    go_ret2
    exact ⟨_, enq, by first | exact Kd.R_nil _ _ _ _ _ | exact Kd.N_nil _ _ _ _ _ | exact Kd.V_nil _ _ _ _ _ | exact Kd.Q_nil _ _ _ _ _ | exact Kd.S_nil _ _ _ _ _, by repeat (first | (with_reducible first | exact HB.out | apply below_alloc | apply pw_below_drewN | apply below_drew1 | refine below_set ?_ (IsS148.ge HI219.out)) | exact HB.out)⟩
   ·rw [if_neg c37] at H
    have c37b0 : (t224 == 2) = false := beq_eq_false_iff_ne.mpr c37
    have c37b1 : (t224 != 2) = true := bne_iff_ne.mpr c37
    by_cases c46 : t224 = 3
    ·rw [if_pos c46] at H
     have c46b0 : (t224 == 3) = true := beq_iff_eq.mpr c46
     have c46b1 : (t224 != 3) = false := bne_eq_false_iff_eq.mpr c46
     clear c46
     have H' := Aside0.mk H
     clear H
     go_enter Try.func67, Try.ntmps67
     go_wp2_with (first | ((with_reducible refine gate_callee (f := 101) rfl ?_); refine gl_ 8 Try.func101 #[.slice A0 l0.length c0] ?_; (with_reducible refine (spec_l1Source.calls _ _ l0 t217 t218 w _ ?_ ?_ ?_ A2.out).mono ?_); exact bnw; exact HR0.out; exact HC0.out; rintro e w47 ⟨g219, rfl, hi, hb, hb2⟩; refine ⟨_, rfl, ?_⟩; replace HB := am hb; have HI219 := am hi; (try clear hb); (try clear hb2); (try clear hi)) | ((with_reducible refine gate_callee (f := 155) rfl ?_); refine gl_ 10 Try.func155 #[.pointer (some ⟨g219, 0, none⟩)] ?_; (with_reducible refine (spec_l12Draw.calls k g219 t217 t218 t220 t223 w _ ?side1 ?side2 A3.out).mono ?_); (case side1 => repeat (first | (with_reducible first | exact HI219.out | apply IsS148.alloc | apply IsS148.drewN | apply IsS148.drew | apply IsS148.set_1) | exact HI219.out)); (case side2 => repeat (first | (with_reducible first | exact HB.out | apply below_alloc | apply pw_below_drewN | apply below_drew1 | refine below_set ?_ (IsS148.ge HI219.out)) | exact HB.out)); rintro e w48 ⟨v221, rfl, ho0, hi, hb, hk⟩; refine ⟨_, rfl, ?_⟩; have HO222 := am (Kd.R_lower ho0 (below_size (by repeat (first | (with_reducible first | exact HB.out | apply below_alloc | apply pw_below_drewN | apply below_drew1 | refine below_set ?_ (IsS148.ge HI219.out)) | exact HB.out)))); replace HB := am hb; replace HI219 := am hi; (try clear hb); (try clear hk); (try clear hi); (try clear ho0)) | ((with_reducible refine gate_callee (f := 124) rfl ?_); refine gl_ 12 Try.func124 #[.pointer (some ⟨g219, 0, none⟩), .int .i64 14] ?_; (with_reducible refine (spec_l1Next.calls g219 t217 t223 14 t224 t225 w _ ?side1 ?side2 A4.out).mono ?_); (case side1 => repeat (first | (with_reducible first | exact HI219.out | apply IsS148.alloc | apply IsS148.drewN | apply IsS148.drew | apply IsS148.set_1) | exact HI219.out)); (case side2 => repeat (first | (with_reducible first | exact HB.out | apply below_alloc | apply pw_below_drewN | apply below_drew1 | refine below_set ?_ (IsS148.ge HI219.out)) | exact HB.out)); rintro e w49 ⟨rfl, hi, hb, hk⟩; refine ⟨_, rfl, ?_⟩; replace HO222 := am (Kd.R_mono (Kd.R_keep (IsS148.apart (show IsS148 w _ g219 t217 t223 from by repeat (first | (with_reducible first | exact HI219.out | apply IsS148.alloc | apply IsS148.drewN | apply IsS148.drew | apply IsS148.set_1) | exact HI219.out)) (rpl HO222.out) (by decide)) hk (fun _ h => h.2)) (fun _ h => h.1)); replace HB := am hb; replace HI219 := am hi; (try clear hb); (try clear hk); (try clear hi); obtain ⟨Ao50, co50, eo50⟩ := Kd.R_slice HO222.out; subst eo50))
     go_loopg [31] k (fun kq v31 w' => ∃ (x5_1 : List Int) (x31_1 : Int) (x220001_1 : Int), v31 = .int .i64 x31_1 ∧ Aside0 (spec_DrawSearchPulses.l0 kq x5_1 (t220.length : Int) x31_1 t217 x220001_1 = some (r1, r2)) ∧ Aside0 (kq ≤ k) ∧ Aside0 (Kd.R (Kd.int .i64) 2 w' w.heap.size (fun _ => True) (.slice Ao50 t220.length co50) x5_1) ∧ Aside0 (IsS148 w w' g219 t217 x220001_1) ∧ Aside0 (Below w.heap.size w w'))
     case atStart => exact ⟨(t220), (0), (t225), rq, H', ⟨Nat.le_refl _⟩, ⟨HO222.out⟩, ⟨by repeat (first | (with_reducible first | exact HI219.out | apply IsS148.alloc | apply IsS148.drewN | apply IsS148.drew | apply IsS148.set_1) | exact HI219.out)⟩, ⟨by repeat (first | (with_reducible first | exact HB.out | apply below_alloc | apply pw_below_drewN | apply below_drew1 | refine below_set ?_ (IsS148.ge HI219.out)) | exact HB.out)⟩⟩
     case round =>
      clear H'
      try clear c1
      try clear c2
      try clear p2
      try clear c3
      try clear c4
      try clear c5
      try clear c5b0
      try clear c5b1
      try clear c6
      try clear c7
      try clear c7b0
      try clear c7b1
      try clear p8
      try clear q8
      try clear hx8
      try clear qi8
      try clear hf8
      try clear c10
      try clear c12
      try clear c15
      try clear c23
      try clear c23b0
      try clear c23b1
      try clear c24
      try clear c37
      try clear c37b0
      try clear c37b1
      try clear c46
      try clear c46b0
      try clear c46b1
      try clear hx8_0
      try clear p8
      try clear q8
      obtain ⟨x5_1, x31_1, x220001_1, rfl, HA, HK1, HO_5, HI219, HB⟩ := hrel
      have hl5_1 := (Kd.R_reads' HO_5.out).1
      rw [hl5_1] at HO_5
      (try simp only [hl5_1])
      cases gk with
      | zero => exact absurd HA.out (by simp [spec_DrawSearchPulses.l0])
      | succ k1 =>
       have H := HA.out
       clear HA
       simp only [spec_DrawSearchPulses.l0] at H
       by_cases c51 : x31_1 < (t220.length : Int)
       ·rw [if_pos c51] at H
        have c51b0 : decide (x31_1 < (t220.length : Int)) = true := decide_eq_true c51
        (try (have c51b0_hl5_1 := c51b0; rw [hl5_1] at c51b0_hl5_1))
        clear c51
        obtain ⟨y253, hy253⟩ : ∃ y_ : List Int, y_ = (([0, 5] : List Int)) := ⟨_, rfl⟩
        replace H : ((spec_l1Pick.f t217 x220001_1 y253).bind fun bt256 => (if 0 ≤ x31_1 then (if x31_1 < (x5_1.length : Int) then (spec_DrawSearchPulses.l0 k1 (x5_1.set (x31_1 : Int).toNat bt256.1) (t220.length : Int) (wrap64 (x31_1 + 1)) t217 bt256.2) else (none)) else (none))) = some (r1, r2) := by first | (rw [hy253]; with_reducible exact H) | (have H2_ := (Option.bind_some _ _).symm.trans H; rw [hy253]; with_reducible exact H2_) | (have H2_ := (Option.bind_some _ _).symm.trans H; with_reducible exact H2_) | with_reducible exact H | (rw [hy253]; exact H) | exact H
        have Ny253 := Aside0.mk hy253
        clear hy253
        replace H := bnd H
        obtain ⟨⟨t256, t257⟩, A52, H⟩ := H
        replace H : (if 0 ≤ x31_1 then (if x31_1 < (x5_1.length : Int) then (spec_DrawSearchPulses.l0 k1 (x5_1.set (x31_1 : Int).toNat t256) (t220.length : Int) (wrap64 (x31_1 + 1)) t217 t257) else (none)) else (none)) = some (r1, r2) := H
        by_cases c53 : 0 ≤ x31_1
        ·rw [if_pos c53] at H
         have c53b0 : decide (0 ≤ x31_1) = true := decide_eq_true c53
         clear c53
         by_cases c54 : x31_1 < (x5_1.length : Int)
         ·rw [if_pos c54] at H
          have c54b0 : decide (x31_1 < (x5_1.length : Int)) = true := decide_eq_true c54
          (try (have c54b0_hl5_1 := c54b0; rw [hl5_1] at c54b0_hl5_1))
          clear c54
          obtain ⟨y258, hy258⟩ : ∃ y_ : List Int, y_ = (x5_1.set (x31_1 : Int).toNat t256) := ⟨_, rfl⟩
          replace H : (spec_DrawSearchPulses.l0 k1 y258 (t220.length : Int) (wrap64 (x31_1 + 1)) t217 t257) = some (r1, r2) := by first | (rw [hy258]; with_reducible exact H) | (have H2_ := (Option.bind_some _ _).symm.trans H; rw [hy258]; with_reducible exact H2_) | (have H2_ := (Option.bind_some _ _).symm.trans H; with_reducible exact H2_) | with_reducible exact H | (rw [hy258]; exact H) | exact H
          have Ny258 := Aside0.mk hy258
          clear hy258
          have H' := Aside0.mk H
          clear H
          go_wp2_with (first | ((with_reducible refine gate_dst (N := 37) rfl ?_); refine Kd.R_lit (Kd.int .i64) _ 2 ?hg (N := 37) ?hd (xs := ([0, 5] : List Int)) (inner := [.int .i64 0, .int .i64 5]) (ok := fun _ => True) (okp := fun _ => True) ?hr ?hp (fun _ hk => hk) trivial (Below.refl _ _) (Nat.le_refl _) (by simp) ?_; (case hd => rfl); (case hg => rfl); (case hr => first | (go_simp; done) | (go_simp; rfl)); (case hp => exact (Reps.one (show Kd.M (Kd.int .i64) _ _ _ 0 [.int .i64 0] from rfl) (Reps.one (show Kd.M (Kd.int .i64) _ _ _ 5 [.int .i64 5] from rfl) (Reps.none _ _)))); intro v254 w56 ho57 hb hg_ hnew_; clear hg_ hnew_; (first | rw [← Ny253.out] at ho57 | (simp only [Int.reduceToNat] at ho57; rw [← Ny253.out] at ho57)); have HO255 := am (Kd.R_lower (Kd.R_new' ho57 (rlt HO_5)) (below_size (by repeat (first | (with_reducible first | exact HB.out | apply below_alloc | apply pw_below_drewN | apply below_drew1 | refine below_set ?_ (IsS148.ge HI219.out)) | exact HB.out)))); replace HO_5 := rel HO_5 ho57 hb; replace HB := am (below_step (by repeat (first | (with_reducible first | exact HB.out | apply below_alloc | apply pw_below_drewN | apply below_drew1 | refine below_set ?_ (IsS148.ge HI219.out)) | exact HB.out)) hb); replace HI219 := am (IsS148.below (by repeat (first | (with_reducible first | exact HI219.out | apply IsS148.alloc | apply IsS148.drewN | apply IsS148.drew | apply IsS148.set_1) | exact HI219.out)) hb); clear hb ho57; obtain ⟨Ao58, co58, eo58⟩ := Kd.R_slice HO255.out; subst eo58) | ((with_reducible refine gate_callee (f := 102) rfl ?_); refine gl_ 38 Try.func102 #[.pointer (some ⟨g219, 0, none⟩), .slice Ao58 y253.length co58] ?_; (with_reducible refine (spec_l1Pick.calls g219 t217 x220001_1 _ _ y253 t256 t257 w _ ?side1 ?side2 ?side3 ?side4 ?side5 A52.out).mono ?_); (case side1 => repeat (first | (with_reducible first | exact HI219.out | apply IsS148.alloc | apply IsS148.drewN | apply IsS148.drew | apply IsS148.set_1) | exact HI219.out)); (case side2 => repeat (first | (with_reducible first | exact HB.out | apply below_alloc | apply pw_below_drewN | apply below_drew1 | refine below_set ?_ (IsS148.ge HI219.out)) | exact HB.out)); (case side3 => exact (Kd.R_reads' HO255.out).2.2); (case side4 => exact (Kd.R_reads' HO255.out).2.1); (case side5 => exact far_slice (IsS148.own_ne HI219.out HO255.out (by decide))); rintro e w59 ⟨rfl, hi, hb, hk⟩; refine ⟨_, rfl, ?_⟩; replace HO_5 := am (Kd.R_mono (Kd.R_keep (IsS148.apart (show IsS148 w _ g219 t217 x220001_1 from by repeat (first | (with_reducible first | exact HI219.out | apply IsS148.alloc | apply IsS148.drewN | apply IsS148.drew | apply IsS148.set_1) | exact HI219.out)) (rpl HO_5.out) (by decide)) hk (fun _ h => h.2)) (fun _ h => h.1)); replace HO255 := am (Kd.R_mono (Kd.R_keep (IsS148.apart (show IsS148 w _ g219 t217 x220001_1 from by repeat (first | (with_reducible first | exact HI219.out | apply IsS148.alloc | apply IsS148.drewN | apply IsS148.drew | apply IsS148.set_1) | exact HI219.out)) (rpl HO255.out) (by decide)) hk (fun _ h => h.2)) (fun _ h => h.1)); replace HB := am hb; replace HI219 := am hi; (try clear hb); (try clear hk); (try clear hi); have p55 : 0 ≤ (x31_1 : Int) := dta; have q55 : (x31_1 : Int) < ((x5_1.length : Int) : Int) := dta; obtain ⟨go55, co55, eo55, gb55, gl55, cl55, HG55⟩ := Kd.R_form HO_5.out (by omega); (first | cases eo55 | (injection eo55 with ea_ en_ ec_; (first | subst ea_ | (injection ea_ with ea_; subst ea_)); subst ec_; clear en_)); have GB55 := Aside0.mk gb55; have GG55 := Aside0.mk HG55; clear gb55 gl55 HG55; obtain ⟨hx55_0, hf55_0⟩ := Kd.R_celln 0 HO_5.out (x31_1 : Int) p55 q55; replace p55 := eq_true p55; replace q55 := eq_true q55; have n_ := Aside0.mk (Kd.R_mono (ok' := (fun k_ => some k_ ≠ (.slice Ao58 y253.length co58 : Value).ownBlock)) HO_5.out (fun k_ hk => hk.2)); clear HO_5; have HO_5 := n_; clear n_; obtain ⟨hy60_, hz60_⟩ := Kd.R_celln 0 HO_5.out (x31_1 : Int) (dta) (dta); have HP60 := Kd.R_putg HO_5.out (x31_1 : Int) t256) | ((with_reducible refine gate_store (t := 2) (p := 39) rfl ?_); refine store_event (t := 2) (p := 39) (v := ?vo_w61) (w1 := (w59.setCell ⟨go55, (x31_1 : Int).toNat, none⟩ (.int .i64 t256))) ?hg ?ho ?hn ?hr ?_; (case ho => rfl); (case hg => rfl); (case hn => rfl); (case hr => first | (go_simp; done) | (go_simp; rfl)); intro w61 hw; have hg : w59.grownBy w61 (some go55) := (by rw [hw]; exact HP60.2); have hp_ : Kd.R (Kd.int .i64) 2 w61 w.heap.size (fun k_ => some k_ ≠ (.slice Ao58 y253.length co58 : Value).ownBlock) (.slice (some ⟨go55, 0, none⟩) x5_1.length co50) y258 := (by rw [hw, Ny258.out]; exact HP60.1); clear HP60; replace HI219 := am (IsS148.grown (by repeat (first | (with_reducible first | exact HI219.out | apply IsS148.alloc | apply IsS148.drewN | apply IsS148.drew | apply IsS148.set_1) | exact HI219.out)) hg (IsS148.own_ne HI219.out HO_5.out (by decide))); replace HO_5 := am hp_; replace HO255 := am (Kd.R_after (v := (.slice (some ⟨go55, 0, none⟩) x5_1.length co50)) (v1 := (.slice (some ⟨go55, 0, none⟩) x5_1.length co50)) (ok := (fun _ => True)) (rpl HO255.out) hg (.inl rfl)); replace HB := am (by rw [hw]; exact below_set (HB.out) GB55.out : Below w.heap.size w w61); clear hg hw hp_))
          (try simp only [← hl5_1])
          go_roundg k1
          case measure => have := HK1.out; omega
          case rel => exact ⟨(y258), (wrap64 (x31_1 + 1)), (t257), rq, H', ⟨by have := HK1.out; omega⟩, ⟨by (try simp only [hl5_1]); (with_reducible repeat (first | apply Kd.R_alloc | apply Kd.R_drewN | apply Kd.R_drew)); exact Kd.R_mono HO_5.out (fun _ hk => trivial)⟩, ⟨by repeat (first | (with_reducible first | exact HI219.out | apply IsS148.alloc | apply IsS148.drewN | apply IsS148.drew | apply IsS148.set_1) | exact HI219.out)⟩, ⟨by repeat (first | (with_reducible first | exact HB.out | apply below_alloc | apply pw_below_drewN | apply below_drew1 | refine below_set ?_ (IsS148.ge HI219.out)) | exact HB.out)⟩⟩
         ·rw [if_neg c54] at H
          exact absurd H (by simp)
        ·rw [if_neg c53] at H
         exact absurd H (by simp)
       ·rw [if_neg c51] at H
        have c51b0 : decide (x31_1 < (t220.length : Int)) = false := decide_eq_false c51
        (try (have c51b0_hl5_1 := c51b0; rw [hl5_1] at c51b0_hl5_1))
        clear c51
        obtain ⟨y259, hy259⟩ : ∃ y_ : List Int, y_ = (([8, 6, 4, 2, 1, 3, 0, 9] : List Int)) := ⟨_, rfl⟩
        replace H : ((spec_l1Pick.f t217 x220001_1 y259).bind fun bt262 => (some (x5_1, bt262.1))) = some (r1, r2) := by first | (rw [hy259]; with_reducible exact H) | (have H2_ := (Option.bind_some _ _).symm.trans H; rw [hy259]; with_reducible exact H2_) | (have H2_ := (Option.bind_some _ _).symm.trans H; with_reducible exact H2_) | with_reducible exact H | (rw [hy259]; exact H) | exact H
        have Ny259 := Aside0.mk hy259
        clear hy259
        replace H := bnd H
        obtain ⟨⟨t262, t263⟩, A62, H⟩ := H
        replace H : (some (x5_1, t262)) = some (r1, r2) := H
        simp only [Option.some.injEq, Prod.mk.injEq] at H
        obtain ⟨rfl, rfl⟩ := H
        go_wp2_with (first | ((with_reducible refine gate_dst (N := 43) rfl ?_); refine Kd.R_lit (Kd.int .i64) _ 2 ?hg (N := 43) ?hd (xs := ([8, 6, 4, 2, 1, 3, 0, 9] : List Int)) (inner := [.int .i64 8, .int .i64 6, .int .i64 4, .int .i64 2, .int .i64 1, .int .i64 3, .int .i64 0, .int .i64 9]) (ok := fun _ => True) (okp := fun _ => True) ?hr ?hp (fun _ hk => hk) trivial (Below.refl _ _) (Nat.le_refl _) (by simp) ?_; (case hd => rfl); (case hg => rfl); (case hr => first | (go_simp; done) | (go_simp; rfl)); (case hp => exact (Reps.one (show Kd.M (Kd.int .i64) _ _ _ 8 [.int .i64 8] from rfl) (Reps.one (show Kd.M (Kd.int .i64) _ _ _ 6 [.int .i64 6] from rfl) (Reps.one (show Kd.M (Kd.int .i64) _ _ _ 4 [.int .i64 4] from rfl) (Reps.one (show Kd.M (Kd.int .i64) _ _ _ 2 [.int .i64 2] from rfl) (Reps.one (show Kd.M (Kd.int .i64) _ _ _ 1 [.int .i64 1] from rfl) (Reps.one (show Kd.M (Kd.int .i64) _ _ _ 3 [.int .i64 3] from rfl) (Reps.one (show Kd.M (Kd.int .i64) _ _ _ 0 [.int .i64 0] from rfl) (Reps.one (show Kd.M (Kd.int .i64) _ _ _ 9 [.int .i64 9] from rfl) (Reps.none _ _)))))))))); intro v260 w63 ho64 hb hg_ hnew_; clear hg_ hnew_; (first | rw [← Ny259.out] at ho64 | (simp only [Int.reduceToNat] at ho64; rw [← Ny259.out] at ho64)); have HO261 := am (Kd.R_lower (Kd.R_new' ho64 (rlt HO_5)) (below_size (by repeat (first | (with_reducible first | exact HB.out | apply below_alloc | apply pw_below_drewN | apply below_drew1 | refine below_set ?_ (IsS148.ge HI219.out)) | exact HB.out)))); replace HO_5 := rel HO_5 ho64 hb; replace HB := am (below_step (by repeat (first | (with_reducible first | exact HB.out | apply below_alloc | apply pw_below_drewN | apply below_drew1 | refine below_set ?_ (IsS148.ge HI219.out)) | exact HB.out)) hb); replace HI219 := am (IsS148.below (by repeat (first | (with_reducible first | exact HI219.out | apply IsS148.alloc | apply IsS148.drewN | apply IsS148.drew | apply IsS148.set_1) | exact HI219.out)) hb); clear hb ho64; obtain ⟨Ao65, co65, eo65⟩ := Kd.R_slice HO261.out; subst eo65) | ((with_reducible refine gate_callee (f := 102) rfl ?_); refine gl_ 44 Try.func102 #[.pointer (some ⟨g219, 0, none⟩), .slice Ao65 y259.length co65] ?_; (with_reducible refine (spec_l1Pick.calls g219 t217 x220001_1 _ _ y259 t262 t263 w _ ?side1 ?side2 ?side3 ?side4 ?side5 A62.out).mono ?_); (case side1 => repeat (first | (with_reducible first | exact HI219.out | apply IsS148.alloc | apply IsS148.drewN | apply IsS148.drew | apply IsS148.set_1) | exact HI219.out)); (case side2 => repeat (first | (with_reducible first | exact HB.out | apply below_alloc | apply pw_below_drewN | apply below_drew1 | refine below_set ?_ (IsS148.ge HI219.out)) | exact HB.out)); (case side3 => exact (Kd.R_reads' HO261.out).2.2); (case side4 => exact (Kd.R_reads' HO261.out).2.1); (case side5 => exact far_slice (IsS148.own_ne HI219.out HO261.out (by decide))); rintro e w66 ⟨rfl, hi, hb, hk⟩; refine ⟨_, rfl, ?_⟩; replace HO_5 := am (Kd.R_mono (Kd.R_keep (IsS148.apart (show IsS148 w _ g219 t217 x220001_1 from by repeat (first | (with_reducible first | exact HI219.out | apply IsS148.alloc | apply IsS148.drewN | apply IsS148.drew | apply IsS148.set_1) | exact HI219.out)) (rpl HO_5.out) (by decide)) hk (fun _ h => h.2)) (fun _ h => h.1)); replace HO261 := am (Kd.R_mono (Kd.R_keep (IsS148.apart (show IsS148 w _ g219 t217 x220001_1 from by repeat (first | (with_reducible first | exact HI219.out | apply IsS148.alloc | apply IsS148.drewN | apply IsS148.drew | apply IsS148.set_1) | exact HI219.out)) (rpl HO261.out) (by decide)) hk (fun _ h => h.2)) (fun _ h => h.1)); replace HB := am hb; replace HI219 := am hi; (try clear hb); (try clear hk); (try clear hi)))
        go_ret2
        exact ⟨_, enq, Kd.R_mono HO_5.out (fun _ hk => trivial), by repeat (first | (with_reducible first | exact HB.out | apply below_alloc | apply pw_below_drewN | apply below_drew1 | refine below_set ?_ (IsS148.ge HI219.out)) | exact HB.out)⟩
    ·rw [if_neg c46] at H
     have c46b0 : (t224 == 3) = false := beq_eq_false_iff_ne.mpr c46
     have c46b1 : (t224 != 3) = true := bne_iff_ne.mpr c46
     obtain ⟨y264, hy264⟩ : ∃ y_ : List Int, y_ = (([8, 6, 4, 2, 1, 3, 0, 9] : List Int)) := ⟨_, rfl⟩
     replace H : ((spec_l1Pick.f t217 t225 y264).bind fun bt267 => (some (t220, bt267.1))) = some (r1, r2) := by first | (rw [hy264]; with_reducible exact H) | (have H2_ := (Option.bind_some _ _).symm.trans H; rw [hy264]; with_reducible exact H2_) | (have H2_ := (Option.bind_some _ _).symm.trans H; with_reducible exact H2_) | with_reducible exact H | (rw [hy264]; exact H) | exact H
     have Ny264 := Aside0.mk hy264
     clear hy264
     replace H := bnd H
     obtain ⟨⟨t267, t268⟩, A67, H⟩ := H
     replace H : (some (t220, t267)) = some (r1, r2) := H
     simp only [Option.some.injEq, Prod.mk.injEq] at H
     obtain ⟨rfl, rfl⟩ := H
     go_enter Try.func67, Try.ntmps67
     go_wp2_with (first | ((with_reducible refine gate_callee (f := 101) rfl ?_); refine gl_ 8 Try.func101 #[.slice A0 l0.length c0] ?_; (with_reducible refine (spec_l1Source.calls _ _ l0 t217 t218 w _ ?_ ?_ ?_ A2.out).mono ?_); exact bnw; exact HR0.out; exact HC0.out; rintro e w68 ⟨g219, rfl, hi, hb, hb2⟩; refine ⟨_, rfl, ?_⟩; replace HB := am hb; have HI219 := am hi; (try clear hb); (try clear hb2); (try clear hi)) | ((with_reducible refine gate_callee (f := 155) rfl ?_); refine gl_ 10 Try.func155 #[.pointer (some ⟨g219, 0, none⟩)] ?_; (with_reducible refine (spec_l12Draw.calls k g219 t217 t218 t220 t223 w _ ?side1 ?side2 A3.out).mono ?_); (case side1 => repeat (first | (with_reducible first | exact HI219.out | apply IsS148.alloc | apply IsS148.drewN | apply IsS148.drew | apply IsS148.set_1) | exact HI219.out)); (case side2 => repeat (first | (with_reducible first | exact HB.out | apply below_alloc | apply pw_below_drewN | apply below_drew1 | refine below_set ?_ (IsS148.ge HI219.out)) | exact HB.out)); rintro e w69 ⟨v221, rfl, ho0, hi, hb, hk⟩; refine ⟨_, rfl, ?_⟩; have HO222 := am (Kd.R_lower ho0 (below_size (by repeat (first | (with_reducible first | exact HB.out | apply below_alloc | apply pw_below_drewN | apply below_drew1 | refine below_set ?_ (IsS148.ge HI219.out)) | exact HB.out)))); replace HB := am hb; replace HI219 := am hi; (try clear hb); (try clear hk); (try clear hi); (try clear ho0)) | ((with_reducible refine gate_callee (f := 124) rfl ?_); refine gl_ 12 Try.func124 #[.pointer (some ⟨g219, 0, none⟩), .int .i64 14] ?_; (with_reducible refine (spec_l1Next.calls g219 t217 t223 14 t224 t225 w _ ?side1 ?side2 A4.out).mono ?_); (case side1 => repeat (first | (with_reducible first | exact HI219.out | apply IsS148.alloc | apply IsS148.drewN | apply IsS148.drew | apply IsS148.set_1) | exact HI219.out)); (case side2 => repeat (first | (with_reducible first | exact HB.out | apply below_alloc | apply pw_below_drewN | apply below_drew1 | refine below_set ?_ (IsS148.ge HI219.out)) | exact HB.out)); rintro e w70 ⟨rfl, hi, hb, hk⟩; refine ⟨_, rfl, ?_⟩; replace HO222 := am (Kd.R_mono (Kd.R_keep (IsS148.apart (show IsS148 w _ g219 t217 t223 from by repeat (first | (with_reducible first | exact HI219.out | apply IsS148.alloc | apply IsS148.drewN | apply IsS148.drew | apply IsS148.set_1) | exact HI219.out)) (rpl HO222.out) (by decide)) hk (fun _ h => h.2)) (fun _ h => h.1)); replace HB := am hb; replace HI219 := am hi; (try clear hb); (try clear hk); (try clear hi)) | ((with_reducible refine gate_dst (N := 43) rfl ?_); refine Kd.R_lit (Kd.int .i64) _ 2 ?hg (N := 43) ?hd (xs := ([8, 6, 4, 2, 1, 3, 0, 9] : List Int)) (inner := [.int .i64 8, .int .i64 6, .int .i64 4, .int .i64 2, .int .i64 1, .int .i64 3, .int .i64 0, .int .i64 9]) (ok := fun _ => True) (okp := fun _ => True) ?hr ?hp (fun _ hk => hk) trivial (Below.refl _ _) (Nat.le_refl _) (by simp) ?_; (case hd => rfl); (case hg => rfl); (case hr => first | (go_simp; done) | (go_simp; rfl)); (case hp => exact (Reps.one (show Kd.M (Kd.int .i64) _ _ _ 8 [.int .i64 8] from rfl) (Reps.one (show Kd.M (Kd.int .i64) _ _ _ 6 [.int .i64 6] from rfl) (Reps.one (show Kd.M (Kd.int .i64) _ _ _ 4 [.int .i64 4] from rfl) (Reps.one (show Kd.M (Kd.int .i64) _ _ _ 2 [.int .i64 2] from rfl) (Reps.one (show Kd.M (Kd.int .i64) _ _ _ 1 [.int .i64 1] from rfl) (Reps.one (show Kd.M (Kd.int .i64) _ _ _ 3 [.int .i64 3] from rfl) (Reps.one (show Kd.M (Kd.int .i64) _ _ _ 0 [.int .i64 0] from rfl) (Reps.one (show Kd.M (Kd.int .i64) _ _ _ 9 [.int .i64 9] from rfl) (Reps.none _ _)))))))))); intro v265 w71 ho72 hb hg_ hnew_; clear hg_ hnew_; (first | rw [← Ny264.out] at ho72 | (simp only [Int.reduceToNat] at ho72; rw [← Ny264.out] at ho72)); have HO266 := am (Kd.R_lower (Kd.R_new' ho72 (rlt HO222)) (below_size (by repeat (first | (with_reducible first | exact HB.out | apply below_alloc | apply pw_below_drewN | apply below_drew1 | refine below_set ?_ (IsS148.ge HI219.out)) | exact HB.out)))); replace HO222 := rel HO222 ho72 hb; replace HB := am (below_step (by repeat (first | (with_reducible first | exact HB.out | apply below_alloc | apply pw_below_drewN | apply below_drew1 | refine below_set ?_ (IsS148.ge HI219.out)) | exact HB.out)) hb); replace HI219 := am (IsS148.below (by repeat (first | (with_reducible first | exact HI219.out | apply IsS148.alloc | apply IsS148.drewN | apply IsS148.drew | apply IsS148.set_1) | exact HI219.out)) hb); clear hb ho72; obtain ⟨Ao73, co73, eo73⟩ := Kd.R_slice HO266.out; subst eo73) | ((with_reducible refine gate_callee (f := 102) rfl ?_); refine gl_ 44 Try.func102 #[.pointer (some ⟨g219, 0, none⟩), .slice Ao73 y264.length co73] ?_; (with_reducible refine (spec_l1Pick.calls g219 t217 t225 _ _ y264 t267 t268 w _ ?side1 ?side2 ?side3 ?side4 ?side5 A67.out).mono ?_); (case side1 => repeat (first | (with_reducible first | exact HI219.out | apply IsS148.alloc | apply IsS148.drewN | apply IsS148.drew | apply IsS148.set_1) | exact HI219.out)); (case side2 => repeat (first | (with_reducible first | exact HB.out | apply below_alloc | apply pw_below_drewN | apply below_drew1 | refine below_set ?_ (IsS148.ge HI219.out)) | exact HB.out)); (case side3 => exact (Kd.R_reads' HO266.out).2.2); (case side4 => exact (Kd.R_reads' HO266.out).2.1); (case side5 => exact far_slice (IsS148.own_ne HI219.out HO266.out (by decide))); rintro e w74 ⟨rfl, hi, hb, hk⟩; refine ⟨_, rfl, ?_⟩; replace HO222 := am (Kd.R_mono (Kd.R_keep (IsS148.apart (show IsS148 w _ g219 t217 t225 from by repeat (first | (with_reducible first | exact HI219.out | apply IsS148.alloc | apply IsS148.drewN | apply IsS148.drew | apply IsS148.set_1) | exact HI219.out)) (rpl HO222.out) (by decide)) hk (fun _ h => h.2)) (fun _ h => h.1)); replace HO266 := am (Kd.R_mono (Kd.R_keep (IsS148.apart (show IsS148 w _ g219 t217 t225 from by repeat (first | (with_reducible first | exact HI219.out | apply IsS148.alloc | apply IsS148.drewN | apply IsS148.drew | apply IsS148.set_1) | exact HI219.out)) (rpl HO266.out) (by decide)) hk (fun _ h => h.2)) (fun _ h => h.1)); replace HB := am hb; replace HI219 := am hi; (try clear hb); (try clear hk); (try clear hi)))
     go_ret2
     exact ⟨_, enq, Kd.R_mono HO222.out (fun _ hk => trivial), by repeat (first | (with_reducible first | exact HB.out | apply below_alloc | apply pw_below_drewN | apply below_drew1 | refine below_set ?_ (IsS148.ge HI219.out)) | exact HB.out)⟩

/-! ### laws_lwAt: function 68 -/
def laws_lwAt.f (l0 : List Int) (a1 : Int) (a2 : Int) : Option (Int) := if a2 ≤ 1 then (some 0) else (if (l0.length : Int) = 0 then (if a2 = 0 then (none) else (some (Int.tmod (wrap64 (a1 * 7)) a2))) else (if 0 ≤ (Int.tmod a1 (l0.length : Int)) then (if (Int.tmod a1 (l0.length : Int)) < (l0.length : Int) then (if a2 > 200 then (if 0 ≤ (Int.tmod (wrap64 (a1 + 1)) (l0.length : Int)) then (if (Int.tmod (wrap64 (a1 + 1)) (l0.length : Int)) < (l0.length : Int) then (if a2 = 0 then (none) else (some (Int.tmod (wrap64 ((wrap64 ((wrap64 ((wrap64 (rd l0 (Int.tmod a1 (l0.length : Int)))) + (wrap64 ((wrap64 (Int.tdiv a1 (l0.length : Int))) * 3)))) * 251)) + (wrap64 (rd l0 (Int.tmod (wrap64 (a1 + 1)) (l0.length : Int)))))) a2))) else (none)) else (none)) else (if a2 = 0 then (none) else (some (Int.tmod (wrap64 ((wrap64 (rd l0 (Int.tmod a1 (l0.length : Int)))) + (wrap64 ((wrap64 (Int.tdiv a1 (l0.length : Int))) * 3)))) a2)))) else (none)) else (none)))
set_option maxHeartbeats 8000000 in
set_option maxRecDepth 100000 in
theorem laws_lwAt.calls (A0 : Option Addr) (c0 : Nat) (l0 : List Int) (a1 : Int) (a2 : Int) (r : Int) (w : World) (hr0 : Kd.C (Kd.int .u8) w A0 l0.length l0) (hc0 : l0.length ≤ c0) (h : laws_lwAt.f l0 a1 a2 = some r) :
  Calls Try.prog 68 #[.slice A0 l0.length c0, .int .i64 a1, .int .i64 a2] w fun e w' => e = .returned (.int .i64 r) ∧ Drawn0 w w' := by
 have HR0 := Aside0.mk hr0
 have HC0 := Aside0.mk hc0
 clear hr0 hc0
 have H : (if a2 ≤ 1 then (some 0) else (if (l0.length : Int) = 0 then (if a2 = 0 then (none) else (some (Int.tmod (wrap64 (a1 * 7)) a2))) else (if 0 ≤ (Int.tmod a1 (l0.length : Int)) then (if (Int.tmod a1 (l0.length : Int)) < (l0.length : Int) then (if a2 > 200 then (if 0 ≤ (Int.tmod (wrap64 (a1 + 1)) (l0.length : Int)) then (if (Int.tmod (wrap64 (a1 + 1)) (l0.length : Int)) < (l0.length : Int) then (if a2 = 0 then (none) else (some (Int.tmod (wrap64 ((wrap64 ((wrap64 ((wrap64 (rd l0 (Int.tmod a1 (l0.length : Int)))) + (wrap64 ((wrap64 (Int.tdiv a1 (l0.length : Int))) * 3)))) * 251)) + (wrap64 (rd l0 (Int.tmod (wrap64 (a1 + 1)) (l0.length : Int)))))) a2))) else (none)) else (none)) else (if a2 = 0 then (none) else (some (Int.tmod (wrap64 ((wrap64 (rd l0 (Int.tmod a1 (l0.length : Int)))) + (wrap64 ((wrap64 (Int.tdiv a1 (l0.length : Int))) * 3)))) a2)))) else (none)) else (none)))) = some r := h
 clear h
 by_cases c4 : a2 ≤ 1
 ·rw [if_pos c4] at H
  have c4b0 : decide (a2 ≤ 1) = true := decide_eq_true c4
  clear c4
  obtain rfl := Option.some.inj H
  go_enter Try.func68, Try.ntmps68
  go_wp2
  repeat (go_quiet (fail); try go_wp2)
  go_ret
  exact dsq
 ·rw [if_neg c4] at H
  have c4b0 : decide (a2 ≤ 1) = false := decide_eq_false c4
  clear c4
  by_cases c5 : (l0.length : Int) = 0
  ·rw [if_pos c5] at H
   have c5b0 : ((l0.length : Int) == 0) = true := beq_iff_eq.mpr c5
   have c5b1 : ((l0.length : Int) != 0) = false := bne_eq_false_iff_eq.mpr c5
   clear c5
   by_cases c6 : a2 = 0
   ·rw [if_pos c6] at H
    exact absurd H (by simp)
   ·rw [if_neg c6] at H
    have c6b0 : (a2 == 0) = false := beq_eq_false_iff_ne.mpr c6
    have c6b1 : (a2 != 0) = true := bne_iff_ne.mpr c6
    obtain rfl := Option.some.inj H
    go_enter Try.func68, Try.ntmps68
    go_wp2
    repeat (go_quiet (fail); try go_wp2)
    go_ret
    exact dsq
  ·rw [if_neg c5] at H
   have c5b0 : ((l0.length : Int) == 0) = false := beq_eq_false_iff_ne.mpr c5
   have c5b1 : ((l0.length : Int) != 0) = true := bne_iff_ne.mpr c5
   have c5b2 : ¬ (l0 = []) := fun h_ => c5 (by rw [h_]; rfl)
   obtain ⟨ji7, hji7⟩ : ∃ j_ : Int, (Int.tmod a1 (l0.length : Int)) = j_ := ⟨_, rfl⟩
   replace H : (if 0 ≤ (ji7) then (if (ji7) < (l0.length : Int) then (if a2 > 200 then (if 0 ≤ (Int.tmod (wrap64 (a1 + 1)) (l0.length : Int)) then (if (Int.tmod (wrap64 (a1 + 1)) (l0.length : Int)) < (l0.length : Int) then (if a2 = 0 then (none) else (some (Int.tmod (wrap64 ((wrap64 ((wrap64 ((wrap64 (rd l0 (ji7))) + (wrap64 ((wrap64 (Int.tdiv a1 (l0.length : Int))) * 3)))) * 251)) + (wrap64 (rd l0 (Int.tmod (wrap64 (a1 + 1)) (l0.length : Int)))))) a2))) else (none)) else (none)) else (if a2 = 0 then (none) else (some (Int.tmod (wrap64 ((wrap64 (rd l0 (ji7))) + (wrap64 ((wrap64 (Int.tdiv a1 (l0.length : Int))) * 3)))) a2)))) else (none)) else (none)) = some r := by first | (rw [hji7] at H; exact H) | (simp only [hji7] at H ⊢; exact H)
   by_cases c8 : 0 ≤ (ji7)
   ·rw [if_pos c8] at H
    have c8b0 : decide (0 ≤ (ji7)) = true := decide_eq_true c8
    clear c8
    by_cases c9 : (ji7) < (l0.length : Int)
    ·rw [if_pos c9] at H
     have c9b0 : decide ((ji7) < (l0.length : Int)) = true := decide_eq_true c9
     clear c9
     by_cases c10 : a2 > 200
     ·rw [if_pos c10] at H
      have c10b0 : decide (200 < a2) = true := decide_eq_true c10
      clear c10
      obtain ⟨ji11, hji11⟩ : ∃ j_ : Int, (Int.tmod (wrap64 (a1 + 1)) (l0.length : Int)) = j_ := ⟨_, rfl⟩
      have hjq1_ji11 : (Int.tmod (IntKind.i64.wrap (a1 + 1)) (l0.length : Int)) = ji11 := by (try simp only [i64_w]); exact hji11
      replace H : (if 0 ≤ (ji11) then (if (ji11) < (l0.length : Int) then (if a2 = 0 then (none) else (some (Int.tmod (wrap64 ((wrap64 ((wrap64 ((wrap64 (rd l0 (ji7))) + (wrap64 ((wrap64 (Int.tdiv a1 (l0.length : Int))) * 3)))) * 251)) + (wrap64 (rd l0 (ji11))))) a2))) else (none)) else (none)) = some r := by first | (rw [hji11] at H; exact H) | (simp only [hji11] at H ⊢; exact H)
      by_cases c12 : 0 ≤ (ji11)
      ·rw [if_pos c12] at H
       have c12b0 : decide (0 ≤ (ji11)) = true := decide_eq_true c12
       clear c12
       by_cases c13 : (ji11) < (l0.length : Int)
       ·rw [if_pos c13] at H
        have c13b0 : decide ((ji11) < (l0.length : Int)) = true := decide_eq_true c13
        clear c13
        by_cases c14 : a2 = 0
        ·rw [if_pos c14] at H
         exact absurd H (by simp)
        ·rw [if_neg c14] at H
         have c14b0 : (a2 == 0) = false := beq_eq_false_iff_ne.mpr c14
         have c14b1 : (a2 != 0) = true := bne_iff_ne.mpr c14
         obtain rfl := Option.some.inj H
         have p269 : 0 ≤ ((ji7) : Int) := dta
         have q269 : (ji7) < (l0.length : Int) := dta
         obtain ⟨ad269, e269, hx269_0⟩ := Kd.at_int HR0.out (ji7) p269 q269
         cases e269
         replace p269 := eq_true p269
         replace q269 := eq_true q269
         have p270 : 0 ≤ ((ji11) : Int) := dta
         have q270 : (ji11) < (l0.length : Int) := dta
         obtain ⟨ad270, e270, hx270_0⟩ := Kd.at_int HR0.out (ji11) p270 q270
         obtain rfl : ad269 = ad270 := (by injection e270)
         replace p270 := eq_true p270
         replace q270 := eq_true q270
         go_enter Try.func68, Try.ntmps68
         go_wp2
         repeat (go_quiet (fail); try go_wp2)
         go_ret
         exact ⟨by first | rfl | (simp; done) | (simp only [← hji7, ← hji11] <;> (first | rfl | simp)) | (simp [*]; done), by repeat (first | exact Drawn0.refl _ | apply Drawn0.step)⟩
       ·rw [if_neg c13] at H
        exact absurd H (by simp)
      ·rw [if_neg c12] at H
       exact absurd H (by simp)
     ·rw [if_neg c10] at H
      have c10b0 : decide (200 < a2) = false := decide_eq_false c10
      clear c10
      by_cases c15 : a2 = 0
      ·rw [if_pos c15] at H
       exact absurd H (by simp)
      ·rw [if_neg c15] at H
       have c15b0 : (a2 == 0) = false := beq_eq_false_iff_ne.mpr c15
       have c15b1 : (a2 != 0) = true := bne_iff_ne.mpr c15
       obtain rfl := Option.some.inj H
       have p269 : 0 ≤ ((ji7) : Int) := dta
       have q269 : (ji7) < (l0.length : Int) := dta
       obtain ⟨ad269, e269, hx269_0⟩ := Kd.at_int HR0.out (ji7) p269 q269
       cases e269
       replace p269 := eq_true p269
       replace q269 := eq_true q269
       go_enter Try.func68, Try.ntmps68
       go_wp2
       repeat (go_quiet (fail); try go_wp2)
       go_ret
       exact ⟨by first | rfl | (simp; done) | (simp only [← hji7] <;> (first | rfl | simp)) | (simp [*]; done), by repeat (first | exact Drawn0.refl _ | apply Drawn0.step)⟩
    ·rw [if_neg c9] at H
     exact absurd H (by simp)
   ·rw [if_neg c8] at H
    exact absurd H (by simp)

/-! ### impl_isGain: function 156 -/
def impl_isGain.f (a0 : Int) : Option (Bool) := (impl_inRange.f a0 0 67108864).bind fun t271 => (some t271)
set_option maxHeartbeats 8000000 in
set_option maxRecDepth 100000 in
theorem impl_isGain.calls (a0 : Int) (r : Bool) (w : World) (h : impl_isGain.f a0 = some r) :
  Calls Try.prog 156 #[.int .i64 a0] w fun e w' => e = .returned (.bool r) ∧ Drawn0 w w' := by
 have H : ((impl_inRange.f a0 0 67108864).bind fun t271 => (some t271)) = some r := h
 clear h
 replace H := bnd H
 obtain ⟨t271, A2, H⟩ := H
 obtain rfl := Option.some.inj H
 go_enter Try.func156, Try.ntmps156
 go_wp2_with (first | ((with_reducible refine gate_callee (f := 125) rfl ?_); refine gl_ 4 Try.func125 #[.int .i64 a0, .int .i64 0, .int .i64 67108864] ?_; (with_reducible refine (impl_inRange.calls a0 0 67108864 t271 _ A2.out).mono ?_); rintro e w' ⟨rfl, ⟨nd, rfl⟩⟩; refine ⟨_, rfl, ?_⟩))
 go_ret
 exact dsq

/-! ### impl_roundDiv: function 206 -/
def impl_roundDiv.f : Nat → Int → Int → Option (Int)
 | 0, _, _ => none
 | k + 1, a0, a1 => if a0 < 0 then ((impl_roundDiv.f k (wrap64 (-a0)) a1).bind fun t272 => (some (wrap64 (-t272)))) else (if (wrap64 (2 * a1)) = 0 then (none) else (some (wrap64 (Int.tdiv (wrap64 ((wrap64 (2 * a0)) + a1)) (wrap64 (2 * a1))))))
theorem impl_roundDiv.mono_l : ∀ k, (∀ y0 y1, LeO (impl_roundDiv.f k y0 y1) (impl_roundDiv.f (k + 1) y0 y1))
 | 0 => fun _ _ r h => by simp [impl_roundDiv.f] at h
 | k + 1 => by
  have ih0 := impl_roundDiv.mono_l k
  ·intro y0 y1
   unfold impl_roundDiv.f
   repeat' first
   | (with_reducible exact ih0 _ _)
   | (with_reducible exact LeO.refl _)
   | (with_reducible exact LeO.none _)
   | (with_reducible refine LeO.ite ?_ ?_)
   | (with_reducible refine LeO.bind ?_ (fun _ => ?_))
   | exact ih0 _ _
   | exact LeO.none _
   | refine LeO.ite ?_ ?_
   | refine LeO.bind ?_ (fun _ => ?_)
theorem impl_roundDiv.mono : ∀ a0 a1 k, LeO (impl_roundDiv.f k a0 a1) (impl_roundDiv.f (k + 1) a0 a1) := by
 intro a0 a1 k
 have ih0 := impl_roundDiv.mono_l k
 exact ih0 a0 a1
set_option maxHeartbeats 8000000 in
set_option maxRecDepth 100000 in
theorem impl_roundDiv.calls (k : Nat) : ∀ (a0 : Int) (a1 : Int) (r : Int) (w : World) (h : impl_roundDiv.f k a0 a1 = some r),
  Calls Try.prog 206 #[.int .i64 a0, .int .i64 a1] w fun e w' => e = .returned (.int .i64 r) ∧ Drawn0 w w' := by
 induction k using Nat.strongRecOn with
 | _ k ih =>
 intro a0 a1 r w h
 cases k with
 | zero => exact absurd h (by simp [impl_roundDiv.f])
 | succ k =>
 simp only [impl_roundDiv.f] at h
 have H : (if a0 < 0 then ((impl_roundDiv.f k (wrap64 (-a0)) a1).bind fun t272 => (some (wrap64 (-t272)))) else (if (wrap64 (2 * a1)) = 0 then (none) else (some (wrap64 (Int.tdiv (wrap64 ((wrap64 (2 * a0)) + a1)) (wrap64 (2 * a1))))))) = some r := h
 clear h
 by_cases c3 : a0 < 0
 ·rw [if_pos c3] at H
  have c3b0 : decide (a0 < 0) = true := decide_eq_true c3
  clear c3
  replace H := bnd H
  obtain ⟨t272, A4, H⟩ := H
  obtain rfl := Option.some.inj H
  go_enter Try.func206, Try.ntmps206
  go_wp2_with (first | ((with_reducible refine gate_callee (f := 206) rfl ?_); refine gl_ 10 Try.func206 #[.int .i64 (wrap64 (-a0)), .int .i64 a1] ?_; (with_reducible refine (ih k (by omega) (wrap64 (-a0)) a1 t272 _ A4.out).mono ?_); rintro e w' ⟨rfl, ⟨nd, rfl⟩⟩; refine ⟨_, rfl, ?_⟩))
  go_ret
  exact dsq
 ·rw [if_neg c3] at H
  have c3b0 : decide (a0 < 0) = false := decide_eq_false c3
  clear c3
  by_cases c5 : (wrap64 (2 * a1)) = 0
  ·rw [if_pos c5] at H
   exact absurd H (by simp)
  ·rw [if_neg c5] at H
   have c5b0 : ((wrap64 (2 * a1)) == 0) = false := beq_eq_false_iff_ne.mpr c5
   have c5b1 : ((wrap64 (2 * a1)) != 0) = true := bne_iff_ne.mpr c5
   obtain rfl := Option.some.inj H
   go_enter Try.func206, Try.ntmps206
   go_wp2
   go_ret
   exact dsq

/-! ### impl_shapeOf: function 157 -/
def impl_shapeOf.l0 : Nat → Int → Int → List Int → List Int → Int → Int → Option (List Int)
 | 0, _, _, _, _, _, _ => none
 | k + 1, x1, x2, x7, x11, x12, x13 => if x13 < x12 then (if 0 ≤ x13 then (if x13 < (x11.length : Int) then ((impl_roundDiv.f k (wrap64 (x2 * (rd x11 x13))) x1).bind fun t277 => (if x7.length < 17592186044416 then (impl_shapeOf.l0 k x1 x2 (x7 ++ [t277]) x11 x12 (wrap64 (x13 + 1))) else (none))) else (none)) else (none)) else (some x7)
def impl_shapeOf.f (k : Nat) (l0 : List Int) (a1 : Int) (a2 : Int) : Option (List Int) := impl_shapeOf.l0 k a1 a2 (([] : List Int)) l0 (l0.length : Int) 0
theorem impl_shapeOf.mono_l : ∀ k, (∀ y0 y1 y2 y3 y4 y5, LeO (impl_shapeOf.l0 k y0 y1 y2 y3 y4 y5) (impl_shapeOf.l0 (k + 1) y0 y1 y2 y3 y4 y5))
 | 0 => fun _ _ _ _ _ _ r h => by simp [impl_shapeOf.l0] at h
 | k + 1 => by
  have ih0 := impl_shapeOf.mono_l k
  ·intro y0 y1 y2 y3 y4 y5
   unfold impl_shapeOf.l0
   repeat' first
   | (with_reducible exact ih0 _ _ _ _ _ _)
   | (with_reducible exact impl_roundDiv.mono _ _ _)
   | (with_reducible exact LeO.refl _)
   | (with_reducible exact LeO.none _)
   | (with_reducible refine LeO.ite ?_ ?_)
   | (with_reducible refine LeO.bind ?_ (fun _ => ?_))
   | exact ih0 _ _ _ _ _ _
   | exact impl_roundDiv.mono _ _ _
   | exact LeO.none _
   | refine LeO.ite ?_ ?_
   | refine LeO.bind ?_ (fun _ => ?_)
theorem impl_shapeOf.mono : ∀ a0 a1 a2 k, LeO (impl_shapeOf.f k a0 a1 a2) (impl_shapeOf.f (k + 1) a0 a1 a2) := by
 intro a0 a1 a2 k
 have ih0 := impl_shapeOf.mono_l k
 unfold impl_shapeOf.f
 repeat' first
   | (with_reducible exact ih0 _ _ _ _ _ _)
   | (with_reducible exact impl_roundDiv.mono _ _ _)
   | (with_reducible exact LeO.refl _)
   | (with_reducible exact LeO.none _)
   | (with_reducible refine LeO.ite ?_ ?_)
   | (with_reducible refine LeO.bind ?_ (fun _ => ?_))
   | exact ih0 _ _ _ _ _ _
   | exact impl_roundDiv.mono _ _ _
   | exact LeO.none _
   | refine LeO.ite ?_ ?_
   | refine LeO.bind ?_ (fun _ => ?_)
set_option maxHeartbeats 8000000 in
set_option maxRecDepth 100000 in
theorem impl_shapeOf.calls (k : Nat) (A0 : Option Addr) (c0 : Nat) (l0 : List Int) (a1 : Int) (a2 : Int) (r : List Int) (w : World) (hr0 : Kd.C (Kd.int .i64) w A0 l0.length l0) (hc0 : l0.length ≤ c0) (h : impl_shapeOf.f k l0 a1 a2 = some r) :
  Calls Try.prog 157 #[.slice A0 l0.length c0, .int .i64 a1, .int .i64 a2] w fun e w' => ∃ v0_ : Value, e = .returned (v0_) ∧ Kd.R (Kd.int .i64) 2 w' w.heap.size (fun _ => True) v0_ r ∧ Below w.heap.size w w' := by
 have HR0 := Aside0.mk hr0
 have HC0 := Aside0.mk hc0
 clear hr0 hc0
 have HB := Aside0.mk (Below.refl w.heap.size w)
 have H : (impl_shapeOf.l0 k a1 a2 (([] : List Int)) l0 (l0.length : Int) 0) = some r := h
 clear h
 obtain ⟨y273, hy273⟩ : ∃ y_ : List Int, y_ = (([] : List Int)) := ⟨_, rfl⟩
 replace H : (impl_shapeOf.l0 k a1 a2 y273 l0 (l0.length : Int) 0) = some r := by first | (rw [hy273]; with_reducible exact H) | (have H2_ := (Option.bind_some _ _).symm.trans H; rw [hy273]; with_reducible exact H2_) | (have H2_ := (Option.bind_some _ _).symm.trans H; with_reducible exact H2_) | with_reducible exact H | (rw [hy273]; exact H) | exact H
 have Ny273 := Aside0.mk hy273
 clear hy273
 have H' := Aside0.mk H
 clear H
 go_enter Try.func157, Try.ntmps157
 go_wp2_with (first | ((with_reducible refine gate_dst (N := 10) rfl ?_); refine Kd.R_lit (Kd.int .i64) _ 2 ?hg (N := 10) ?hd (xs := ([] : List Int)) (inner := []) (ok := fun _ => True) (okp := fun _ => True) ?hr ?hp (fun _ hk => hk) trivial (Below.refl _ _) (Nat.le_refl _) (by simp) ?_; (case hd => rfl); (case hg => rfl); (case hr => first | (go_simp; done) | (go_simp; rfl)); (case hp => exact (Reps.none _ _)); intro v274 w4 ho5 hb hg_ hnew_; clear hg_ hnew_; (first | rw [← Ny273.out] at ho5 | (simp only [Int.reduceToNat] at ho5; rw [← Ny273.out] at ho5)); have HO275 := rlw ho5; replace HB := hbs hb; clear hb ho5))
 go_loopg [7, 13] k (fun kq v7 v13 w' => ∃ (x7_1 : List Int) (x13_1 : Int), v13 = .int .i64 x13_1 ∧ Aside0 (impl_shapeOf.l0 kq a1 a2 x7_1 l0 (l0.length : Int) x13_1 = some r) ∧ Aside0 (kq ≤ k) ∧ Aside0 (Kd.R (Kd.int .i64) 2 w' w.heap.size (fun _ => True) v7 x7_1) ∧ Aside0 (Below w.heap.size w w'))
 case atStart => exact ⟨(y273), (0), rq, H', ⟨Nat.le_refl _⟩, ⟨by (with_reducible repeat (first | apply Kd.R_alloc | apply Kd.R_drewN | apply Kd.R_drew)); exact HO275.out⟩, ⟨bnw⟩⟩
 case round =>
  clear H'
  try clear c1
  try clear p2
  obtain ⟨x7_1, x13_1, rfl, HA, HK1, HO_7, HB⟩ := hrel
  cases gk with
  | zero => exact absurd HA.out (by simp [impl_shapeOf.l0])
  | succ k1 =>
   have H := HA.out
   clear HA
   simp only [impl_shapeOf.l0] at H
   by_cases c6 : x13_1 < (l0.length : Int)
   ·rw [if_pos c6] at H
    have c6b0 : decide (x13_1 < (l0.length : Int)) = true := decide_eq_true c6
    clear c6
    by_cases c7 : 0 ≤ x13_1
    ·rw [if_pos c7] at H
     have c7b0 : decide (0 ≤ x13_1) = true := decide_eq_true c7
     clear c7
     by_cases c8 : x13_1 < (l0.length : Int)
     ·rw [if_pos c8] at H
      have c8b0 : decide (x13_1 < (l0.length : Int)) = true := decide_eq_true c8
      clear c8
      replace H := bnd H
      obtain ⟨t277, A9, H⟩ := H
      by_cases c10 : x7_1.length < 17592186044416
      ·rw [if_pos c10] at H
       have LMc10 := Aside0.mk c10
       clear c10
       obtain ⟨y278, hy278⟩ : ∃ y_ : List Int, y_ = (x7_1 ++ [t277]) := ⟨_, rfl⟩
       replace H : (impl_shapeOf.l0 k1 a1 a2 y278 l0 (l0.length : Int) (wrap64 (x13_1 + 1))) = some r := by first | (rw [hy278]; with_reducible exact H) | (have H2_ := (Option.bind_some _ _).symm.trans H; rw [hy278]; with_reducible exact H2_) | (have H2_ := (Option.bind_some _ _).symm.trans H; with_reducible exact H2_) | with_reducible exact H | (rw [hy278]; exact H) | exact H
       have Ny278 := Aside0.mk hy278
       clear hy278
       have H' := Aside0.mk H
       clear H
       have p276 : 0 ≤ (x13_1 : Int) := dta
       have q276 : x13_1 < (l0.length : Int) := dta
       obtain ⟨ad276, e276, hx276_0⟩ := Kd.at_int HR0.out x13_1 p276 q276
       cases e276
       replace hx276_0 := (HB.out.cell (World.block_lt_of_cell? w _ hx276_0)).trans hx276_0
       replace p276 := eq_true p276
       replace q276 := eq_true q276
       go_wp2_with (first | ((with_reducible refine gate_callee (f := 206) rfl ?_); refine gl_ 22 Try.func206 #[.int .i64 (wrap64 (a2 * (rd l0 x13_1))), .int .i64 a1] ?_; (with_reducible refine (impl_roundDiv.calls k1 (wrap64 (a2 * (rd l0 x13_1))) a1 t277 _ A9.out).mono ?_); rintro e w' ⟨rfl, ⟨nd, rfl⟩⟩; refine ⟨_, rfl, ?_⟩) | ((with_reducible refine gate_builtin (b := .append) (xs := #[.tmp 17, .tmp 23]) rfl ?_); at_builtin; refine Kd.R_append (Kd.int .i64) (w0 := w) w.heap.size rfl (.tmp 17) (.tmp 23) 26 2 (.int .i64 0) 8 rfl Try.underlying26 info2 rfl (by decide) (by omega) u7 x7_1 t277 [.int .i64 t277] (fun _ => True) (fun _ => False) rfl rfl ?aP (fun _ hk => hk.elim) ?aF ?aO ?aB ?aS ?aL ?_; (case aP => exact rfl); (case aB => exact bnw); (case aF => exact (fun _ _ => trivial)); (case aO => exact (rpl HO_7.out)); (case aS => exact bsz); (case aL => have := LMc10.out; omega); intro v279 w11 ho hb hg hat; rw [← Ny278.out] at ho; replace HB := am hb; have HO280 := am ho; clear HO_7 ho hb hg hat))
       go_roundg k1
       case measure => have := HK1.out; omega
       case rel => exact ⟨(y278), (wrap64 (x13_1 + 1)), rq, H', ⟨by have := HK1.out; omega⟩, ⟨by (with_reducible repeat (first | apply Kd.R_alloc | apply Kd.R_drewN | apply Kd.R_drew)); exact HO280.out⟩, ⟨bnw⟩⟩
      ·rw [if_neg c10] at H
       exact absurd H (by simp)
     ·rw [if_neg c8] at H
      exact absurd H (by simp)
    ·rw [if_neg c7] at H
     exact absurd H (by simp)
   ·rw [if_neg c6] at H
    have c6b0 : decide (x13_1 < (l0.length : Int)) = false := decide_eq_false c6
    clear c6
    obtain rfl := Option.some.inj H
    go_wp2
    go_ret
    exact ⟨_, enq, by (with_reducible repeat (first | apply Kd.R_alloc | apply Kd.R_drewN | apply Kd.R_drew)); exact HO_7.out, bnw⟩

/-! ### impl_ShapeOf: function 69 -/
def impl_ShapeOf.f (k : Nat) (l0 : List Int) (a1 : Int) (a2 : Int) : Option (Int × List Int) := (impl_PulsesFault.f k l0 a1).bind fun t282 => (if a1 = 0 then ((impl_codeIf.f true 3).bind fun t283 => ((impl_first.f k (([t282, t283] : List Int))).bind fun t287 => (if t287 = 0 then ((impl_shapeOf.f k l0 a1 a2).bind fun t288 => (some (0, t288))) else (some (t287, ([] : List Int)))))) else ((impl_isGain.f a2).bind fun t291 => ((impl_codeIf.f (!t291) 3).bind fun t292 => ((impl_first.f k (([t282, t292] : List Int))).bind fun t296 => (if t296 = 0 then ((impl_shapeOf.f k l0 a1 a2).bind fun t297 => (some (0, t297))) else (some (t296, ([] : List Int))))))))
theorem impl_ShapeOf.mono : ∀ a0 a1 a2 k, LeO (impl_ShapeOf.f k a0 a1 a2) (impl_ShapeOf.f (k + 1) a0 a1 a2) := by
 intro a0 a1 a2 k
 unfold impl_ShapeOf.f
 repeat' first
   | (with_reducible exact impl_PulsesFault.mono _ _ _)
   | (with_reducible exact impl_first.mono _ _)
   | (with_reducible exact impl_shapeOf.mono _ _ _ _)
   | (with_reducible exact LeO.refl _)
   | (with_reducible exact LeO.none _)
   | (with_reducible refine LeO.ite ?_ ?_)
   | (with_reducible refine LeO.bind ?_ (fun _ => ?_))
   | exact impl_PulsesFault.mono _ _ _
   | exact impl_first.mono _ _
   | exact impl_shapeOf.mono _ _ _ _
   | exact LeO.none _
   | refine LeO.ite ?_ ?_
   | refine LeO.bind ?_ (fun _ => ?_)
set_option maxHeartbeats 8000000 in
set_option maxRecDepth 100000 in
theorem impl_ShapeOf.calls (k : Nat) (A0 : Option Addr) (c0 : Nat) (l0 : List Int) (a1 : Int) (a2 : Int) (r1 : Int) (r2 : List Int) (w : World) (hr0 : Kd.C (Kd.int .i64) w A0 l0.length l0) (hc0 : l0.length ≤ c0) (h : impl_ShapeOf.f k l0 a1 a2 = some (r1, r2)) :
  Calls Try.prog 69 #[.slice A0 l0.length c0, .int .i64 a1, .int .i64 a2] w fun e w' => ∃ v1_ : Value, e = .returned (.agg #[.int .i64 r1, v1_]) ∧ Kd.R (Kd.int .i64) 2 w' w.heap.size (fun _ => True) v1_ r2 ∧ Below w.heap.size w w' := by
 have hu28 := Try.underlying28
 have HR0 := Aside0.mk hr0
 have HC0 := Aside0.mk hc0
 clear hr0 hc0
 have HB := Aside0.mk (Below.refl w.heap.size w)
 have H : ((impl_PulsesFault.f k l0 a1).bind fun t282 => (if a1 = 0 then ((impl_codeIf.f true 3).bind fun t283 => ((impl_first.f k (([t282, t283] : List Int))).bind fun t287 => (if t287 = 0 then ((impl_shapeOf.f k l0 a1 a2).bind fun t288 => (some (0, t288))) else (some (t287, ([] : List Int)))))) else ((impl_isGain.f a2).bind fun t291 => ((impl_codeIf.f (!t291) 3).bind fun t292 => ((impl_first.f k (([t282, t292] : List Int))).bind fun t296 => (if t296 = 0 then ((impl_shapeOf.f k l0 a1 a2).bind fun t297 => (some (0, t297))) else (some (t296, ([] : List Int))))))))) = some (r1, r2) := h
 clear h
 replace H := bnd H
 obtain ⟨t282, A4, H⟩ := H
 by_cases c5 : a1 = 0
 ·rw [if_pos c5] at H
  have c5b0 : (a1 == 0) = true := beq_iff_eq.mpr c5
  have c5b1 : (a1 != 0) = false := bne_eq_false_iff_eq.mpr c5
  clear c5
  replace H := bnd H
  obtain ⟨t283, A6, H⟩ := H
  obtain ⟨y284, hy284⟩ : ∃ y_ : List Int, y_ = (([t282, t283] : List Int)) := ⟨_, rfl⟩
  replace H : ((impl_first.f k y284).bind fun t287 => (if t287 = 0 then ((impl_shapeOf.f k l0 a1 a2).bind fun t288 => (some (0, t288))) else (some (t287, ([] : List Int))))) = some (r1, r2) := by first | (rw [hy284]; with_reducible exact H) | (have H2_ := (Option.bind_some _ _).symm.trans H; rw [hy284]; with_reducible exact H2_) | (have H2_ := (Option.bind_some _ _).symm.trans H; with_reducible exact H2_) | with_reducible exact H | (rw [hy284]; exact H) | exact H
  have Ny284 := Aside0.mk hy284
  clear hy284
  replace H := bnd H
  obtain ⟨t287, A7, H⟩ := H
  by_cases c8 : t287 = 0
  ·rw [if_pos c8] at H
   have c8b0 : (t287 == 0) = true := beq_iff_eq.mpr c8
   have c8b1 : (t287 != 0) = false := bne_eq_false_iff_eq.mpr c8
   clear c8
   replace H := bnd H
   obtain ⟨t288, A9, H⟩ := H
   simp only [Option.some.injEq, Prod.mk.injEq] at H
   obtain ⟨rfl, rfl⟩ := H
   go_enter Try.func69, Try.ntmps69
   go_wp2_with (first | ((with_reducible refine gate_dst (N := 6) rfl ?_); refine bev 6 28 #[.int .i64 0, .slice none 0 0] ?_; intro gb281 hg w10 hbox hb; have BK281 := am hbox; have GW281 := gwe hg; have GE281 := gwe hg; replace HB := hbs hb; clear hb hbox hg) | ((with_reducible refine gate_callee (f := 42) rfl ?_); refine gl_ 10 Try.func42 #[.slice A0 l0.length c0, .int .i64 a1] ?_; (with_reducible refine (impl_PulsesFault.calls k _ _ l0 a1 t282 _ ?_ ?_ A4.out).mono ?_); exact cpl HR0.out; exact HC0.out; rintro e w11 ⟨rfl, hb⟩; refine ⟨_, rfl, ?_⟩; replace BK281 := bkb BK281 hb; replace HB := hbs hb; (try clear hb)) | ((with_reducible refine gate_callee (f := 118) rfl ?_); refine gl_ 18 Try.func118 #[.bool true, .int .i64 3] ?_; (with_reducible refine (impl_codeIf.calls true 3 t283 _ A6.out).mono ?_); rintro e w' ⟨rfl, ⟨nd, rfl⟩⟩; refine ⟨_, rfl, ?_⟩; (try ((repeat rw [World.drewN_drewN w11]); rw [drewN_self w11]; generalize hq_ : World.drewN w11 _ = w11; have n0_ : Aside0 (w11.heap[gb281]? = some (.cells #[.int .i64 0, .slice none 0 0] 28 (0, 0))) := ⟨by rw [← hq_]; exact (bpl BK281.out)⟩; have n1_ : Aside0 (Below w.heap.size w w11) := ⟨by rw [← hq_]; exact bnx⟩; clear BK281 HB hq_; have BK281 := n0_; have HB := n1_; clear n0_ n1_))) | ((with_reducible refine gate_dst (N := 19) rfl ?_); refine Kd.R_lit (Kd.int .i64) _ 2 ?hg (N := 19) ?hd (xs := ([t282, t283] : List Int)) (inner := [.int .i64 t282, .int .i64 t283]) (ok := fun _ => True) (okp := fun _ => True) ?hr ?hp (fun _ hk => hk) trivial (Below.refl _ _) (Nat.le_refl _) (by simp) ?_; (case hd => rfl); (case hg => rfl); (case hr => first | (go_simp; done) | (go_simp; rfl)); (case hp => exact (Reps.one (show Kd.M (Kd.int .i64) _ _ _ t282 [.int .i64 t282] from rfl) (Reps.one (show Kd.M (Kd.int .i64) _ _ _ t283 [.int .i64 t283] from rfl) (Reps.none _ _)))); intro v285 w12 ho13 hb hg_ hnew_; clear hg_ hnew_; (first | rw [← Ny284.out] at ho13 | (simp only [Int.reduceToNat] at ho13; rw [← Ny284.out] at ho13)); have HO286 := rlw ho13; replace BK281 := bkb BK281 hb; replace HB := hbs hb; clear hb ho13; obtain ⟨Ao14, co14, eo14⟩ := Kd.R_slice HO286.out; subst eo14) | ((with_reducible refine gate_callee (f := 117) rfl ?_); refine gl_ 20 Try.func117 #[.slice Ao14 y284.length co14] ?_; (with_reducible refine (impl_first.calls k _ _ y284 t287 _ ?_ ?_ A7.out).mono ?_); exact crd HO286; exact (Kd.R_reads' HO286.out).2.1; rintro e w' ⟨rfl, ⟨nd, rfl⟩⟩; refine ⟨_, rfl, ?_⟩; (try ((repeat rw [World.drewN_drewN w12]); rw [drewN_self w12]; generalize hq_ : World.drewN w12 _ = w12; have n0_ : Aside0 (Kd.R (Kd.int .i64) 2 w12 w.heap.size (fun _ => True) (.slice Ao14 y284.length co14) y284) := ⟨by rw [← hq_]; exact (rpl HO286.out)⟩; have n1_ : Aside0 (w12.heap[gb281]? = some (.cells #[.int .i64 0, .slice none 0 0] 28 (0, 0))) := ⟨by rw [← hq_]; exact (bpl BK281.out)⟩; have n2_ : Aside0 (Below w.heap.size w w12) := ⟨by rw [← hq_]; exact bnx⟩; clear HO286 BK281 HB hq_; have HO286 := n0_; have BK281 := n1_; have HB := n2_; clear n0_ n1_ n2_))) | ((with_reducible refine gate_callee (f := 157) rfl ?_); refine gl_ 28 Try.func157 #[.slice A0 l0.length c0, .int .i64 a1, .int .i64 a2] ?_; (with_reducible refine (impl_shapeOf.calls k _ _ l0 a1 a2 t288 _ ?_ ?_ A9.out).mono ?_); exact cpl HR0.out; exact HC0.out; rintro e w15 ⟨v289, rfl, ho0, hb⟩; refine ⟨_, rfl, ?_⟩; have HO290 := am (Kd.R_lower (Kd.R_new' ho0 (rlt HO286)) bsz); replace HO286 := rel HO286 ho0 hb; replace BK281 := bkb BK281 hb; replace HB := hbs hb; (try clear hb); (try clear ho0); obtain ⟨Ao16, co16, eo16⟩ := Kd.R_slice HO290.out; subst eo16; obtain ⟨hcz17_0, hcz17_1, hfz17_0, hfz17_1⟩ := cf2 (W := w15) BK281.out))
   refine bodyPost_ret (results_cell_row rfl _ _ gb281 28 #[.int .i64 0, .slice Ao16 t288.length co16] (0, 0) _ rfl (by (with_reducible repeat (first | refine blk_drewN ?_ _ | refine blk_drew ?_ | refine blk_alloc ?_ _)); refine blk_put (cs := #[.int .i64 0, .slice none 0 0]) ?_ 1 _ rfl; (with_reducible repeat (first | refine blk_drewN ?_ _ | refine blk_drew ?_ | refine blk_alloc ?_ _)); refine blk_put (cs := #[.int .i64 0, .slice none 0 0]) ?_ 0 _ rfl; exact bpl BK281.out) Try.underlying28 rfl (by kernel_rfl)) rfl ?_
   exact ⟨_, enq, by (with_reducible repeat (first | apply Kd.R_alloc | apply Kd.R_drewN | apply Kd.R_drew)); exact Kd.R_mono (Kd.R_far (p := ⟨gb281, 1, none⟩) (Kd.R_far (p := ⟨gb281, 0, none⟩) (Kd.R_types HO290.out BK281.out (by decide)) (fun _ hk => hk.2) (.int .i64 0)) (fun _ hk => hk.2) (.slice Ao16 t288.length co16)) (fun _ hk => trivial), bnx⟩
  ·rw [if_neg c8] at H
   have c8b0 : (t287 == 0) = false := beq_eq_false_iff_ne.mpr c8
   have c8b1 : (t287 != 0) = true := bne_iff_ne.mpr c8
   simp only [Option.some.injEq, Prod.mk.injEq] at H
   obtain ⟨rfl, rfl⟩ := H
   go_enter Try.func69, Try.ntmps69
   go_wp2_with (first | ((with_reducible refine gate_dst (N := 6) rfl ?_); refine bev 6 28 #[.int .i64 0, .slice none 0 0] ?_; intro gb281 hg w18 hbox hb; have BK281 := am hbox; have GW281 := gwe hg; have GE281 := gwe hg; replace HB := hbs hb; clear hb hbox hg) | ((with_reducible refine gate_callee (f := 42) rfl ?_); refine gl_ 10 Try.func42 #[.slice A0 l0.length c0, .int .i64 a1] ?_; (with_reducible refine (impl_PulsesFault.calls k _ _ l0 a1 t282 _ ?_ ?_ A4.out).mono ?_); exact cpl HR0.out; exact HC0.out; rintro e w19 ⟨rfl, hb⟩; refine ⟨_, rfl, ?_⟩; replace BK281 := bkb BK281 hb; replace HB := hbs hb; (try clear hb)) | ((with_reducible refine gate_callee (f := 118) rfl ?_); refine gl_ 18 Try.func118 #[.bool true, .int .i64 3] ?_; (with_reducible refine (impl_codeIf.calls true 3 t283 _ A6.out).mono ?_); rintro e w' ⟨rfl, ⟨nd, rfl⟩⟩; refine ⟨_, rfl, ?_⟩; (try ((repeat rw [World.drewN_drewN w19]); rw [drewN_self w19]; generalize hq_ : World.drewN w19 _ = w19; have n0_ : Aside0 (w19.heap[gb281]? = some (.cells #[.int .i64 0, .slice none 0 0] 28 (0, 0))) := ⟨by rw [← hq_]; exact (bpl BK281.out)⟩; have n1_ : Aside0 (Below w.heap.size w w19) := ⟨by rw [← hq_]; exact bnx⟩; clear BK281 HB hq_; have BK281 := n0_; have HB := n1_; clear n0_ n1_))) | ((with_reducible refine gate_dst (N := 19) rfl ?_); refine Kd.R_lit (Kd.int .i64) _ 2 ?hg (N := 19) ?hd (xs := ([t282, t283] : List Int)) (inner := [.int .i64 t282, .int .i64 t283]) (ok := fun _ => True) (okp := fun _ => True) ?hr ?hp (fun _ hk => hk) trivial (Below.refl _ _) (Nat.le_refl _) (by simp) ?_; (case hd => rfl); (case hg => rfl); (case hr => first | (go_simp; done) | (go_simp; rfl)); (case hp => exact (Reps.one (show Kd.M (Kd.int .i64) _ _ _ t282 [.int .i64 t282] from rfl) (Reps.one (show Kd.M (Kd.int .i64) _ _ _ t283 [.int .i64 t283] from rfl) (Reps.none _ _)))); intro v285 w20 ho21 hb hg_ hnew_; clear hg_ hnew_; (first | rw [← Ny284.out] at ho21 | (simp only [Int.reduceToNat] at ho21; rw [← Ny284.out] at ho21)); have HO286 := rlw ho21; replace BK281 := bkb BK281 hb; replace HB := hbs hb; clear hb ho21; obtain ⟨Ao22, co22, eo22⟩ := Kd.R_slice HO286.out; subst eo22) | ((with_reducible refine gate_callee (f := 117) rfl ?_); refine gl_ 20 Try.func117 #[.slice Ao22 y284.length co22] ?_; (with_reducible refine (impl_first.calls k _ _ y284 t287 _ ?_ ?_ A7.out).mono ?_); exact crd HO286; exact (Kd.R_reads' HO286.out).2.1; rintro e w' ⟨rfl, ⟨nd, rfl⟩⟩; refine ⟨_, rfl, ?_⟩; (try ((repeat rw [World.drewN_drewN w20]); rw [drewN_self w20]; generalize hq_ : World.drewN w20 _ = w20; have n0_ : Aside0 (Kd.R (Kd.int .i64) 2 w20 w.heap.size (fun _ => True) (.slice Ao22 y284.length co22) y284) := ⟨by rw [← hq_]; exact (rpl HO286.out)⟩; have n1_ : Aside0 (w20.heap[gb281]? = some (.cells #[.int .i64 0, .slice none 0 0] 28 (0, 0))) := ⟨by rw [← hq_]; exact (bpl BK281.out)⟩; have n2_ : Aside0 (Below w.heap.size w w20) := ⟨by rw [← hq_]; exact bnx⟩; clear HO286 BK281 HB hq_; have HO286 := n0_; have BK281 := n1_; have HB := n2_; clear n0_ n1_ n2_)); obtain ⟨hcz23_0, hcz23_1, hfz23_0, hfz23_1⟩ := cf2 (W := w20) BK281.out))
   refine bodyPost_ret (results_cell_row rfl _ _ gb281 28 #[.int .i64 t287, .slice none 0 0] (0, 0) _ rfl (by (with_reducible repeat (first | refine blk_drewN ?_ _ | refine blk_drew ?_ | refine blk_alloc ?_ _)); refine blk_put (cs := #[.int .i64 t287, .slice none 0 0]) ?_ 1 _ rfl; (with_reducible repeat (first | refine blk_drewN ?_ _ | refine blk_drew ?_ | refine blk_alloc ?_ _)); refine blk_put (cs := #[.int .i64 0, .slice none 0 0]) ?_ 0 _ rfl; exact bpl BK281.out) Try.underlying28 rfl (by kernel_rfl)) rfl ?_
   exact ⟨_, enq, by first | exact Kd.R_nil _ _ _ _ _ | exact Kd.N_nil _ _ _ _ _ | exact Kd.V_nil _ _ _ _ _ | exact Kd.Q_nil _ _ _ _ _ | exact Kd.S_nil _ _ _ _ _, bnx⟩
 ·rw [if_neg c5] at H
  have c5b0 : (a1 == 0) = false := beq_eq_false_iff_ne.mpr c5
  have c5b1 : (a1 != 0) = true := bne_iff_ne.mpr c5
  replace H := bnd H
  obtain ⟨t291, A24, H⟩ := H
  replace H := bnd H
  obtain ⟨t292, A25, H⟩ := H
  obtain ⟨y293, hy293⟩ : ∃ y_ : List Int, y_ = (([t282, t292] : List Int)) := ⟨_, rfl⟩
  replace H : ((impl_first.f k y293).bind fun t296 => (if t296 = 0 then ((impl_shapeOf.f k l0 a1 a2).bind fun t297 => (some (0, t297))) else (some (t296, ([] : List Int))))) = some (r1, r2) := by first | (rw [hy293]; with_reducible exact H) | (have H2_ := (Option.bind_some _ _).symm.trans H; rw [hy293]; with_reducible exact H2_) | (have H2_ := (Option.bind_some _ _).symm.trans H; with_reducible exact H2_) | with_reducible exact H | (rw [hy293]; exact H) | exact H
  have Ny293 := Aside0.mk hy293
  clear hy293
  replace H := bnd H
  obtain ⟨t296, A26, H⟩ := H
  by_cases c27 : t296 = 0
  ·rw [if_pos c27] at H
   have c27b0 : (t296 == 0) = true := beq_iff_eq.mpr c27
   have c27b1 : (t296 != 0) = false := bne_eq_false_iff_eq.mpr c27
   clear c27
   replace H := bnd H
   obtain ⟨t297, A28, H⟩ := H
   simp only [Option.some.injEq, Prod.mk.injEq] at H
   obtain ⟨rfl, rfl⟩ := H
   go_enter Try.func69, Try.ntmps69
   go_wp2_with (first | ((with_reducible refine gate_dst (N := 6) rfl ?_); refine bev 6 28 #[.int .i64 0, .slice none 0 0] ?_; intro gb281 hg w29 hbox hb; have BK281 := am hbox; have GW281 := gwe hg; have GE281 := gwe hg; replace HB := hbs hb; clear hb hbox hg) | ((with_reducible refine gate_callee (f := 42) rfl ?_); refine gl_ 10 Try.func42 #[.slice A0 l0.length c0, .int .i64 a1] ?_; (with_reducible refine (impl_PulsesFault.calls k _ _ l0 a1 t282 _ ?_ ?_ A4.out).mono ?_); exact cpl HR0.out; exact HC0.out; rintro e w30 ⟨rfl, hb⟩; refine ⟨_, rfl, ?_⟩; replace BK281 := bkb BK281 hb; replace HB := hbs hb; (try clear hb)) | (go_at_call 156; (with_reducible refine (impl_isGain.calls a2 t291 _ A24.out).mono ?_); rintro e w' ⟨rfl, ⟨nd, rfl⟩⟩; (try ((repeat rw [World.drewN_drewN w30]); rw [drewN_self w30]; generalize hq_ : World.drewN w30 _ = w30; have n0_ : Aside0 (w30.heap[gb281]? = some (.cells #[.int .i64 0, .slice none 0 0] 28 (0, 0))) := ⟨by rw [← hq_]; exact (bpl BK281.out)⟩; have n1_ : Aside0 (Below w.heap.size w w30) := ⟨by rw [← hq_]; exact bnx⟩; clear BK281 HB hq_; have BK281 := n0_; have HB := n1_; clear n0_ n1_))) | ((with_reducible refine gate_callee (f := 118) rfl ?_); refine gl_ 18 Try.func118 #[.bool (!t291), .int .i64 3] ?_; (with_reducible refine (impl_codeIf.calls (!t291) 3 t292 _ A25.out).mono ?_); rintro e w' ⟨rfl, ⟨nd, rfl⟩⟩; refine ⟨_, rfl, ?_⟩; (try ((repeat rw [World.drewN_drewN w30]); rw [drewN_self w30]; generalize hq_ : World.drewN w30 _ = w30; have n0_ : Aside0 (w30.heap[gb281]? = some (.cells #[.int .i64 0, .slice none 0 0] 28 (0, 0))) := ⟨by rw [← hq_]; exact (bpl BK281.out)⟩; have n1_ : Aside0 (Below w.heap.size w w30) := ⟨by rw [← hq_]; exact bnx⟩; clear BK281 HB hq_; have BK281 := n0_; have HB := n1_; clear n0_ n1_))) | ((with_reducible refine gate_dst (N := 19) rfl ?_); refine Kd.R_lit (Kd.int .i64) _ 2 ?hg (N := 19) ?hd (xs := ([t282, t292] : List Int)) (inner := [.int .i64 t282, .int .i64 t292]) (ok := fun _ => True) (okp := fun _ => True) ?hr ?hp (fun _ hk => hk) trivial (Below.refl _ _) (Nat.le_refl _) (by simp) ?_; (case hd => rfl); (case hg => rfl); (case hr => first | (go_simp; done) | (go_simp; rfl)); (case hp => exact (Reps.one (show Kd.M (Kd.int .i64) _ _ _ t282 [.int .i64 t282] from rfl) (Reps.one (show Kd.M (Kd.int .i64) _ _ _ t292 [.int .i64 t292] from rfl) (Reps.none _ _)))); intro v294 w31 ho32 hb hg_ hnew_; clear hg_ hnew_; (first | rw [← Ny293.out] at ho32 | (simp only [Int.reduceToNat] at ho32; rw [← Ny293.out] at ho32)); have HO295 := rlw ho32; replace BK281 := bkb BK281 hb; replace HB := hbs hb; clear hb ho32; obtain ⟨Ao33, co33, eo33⟩ := Kd.R_slice HO295.out; subst eo33) | ((with_reducible refine gate_callee (f := 117) rfl ?_); refine gl_ 20 Try.func117 #[.slice Ao33 y293.length co33] ?_; (with_reducible refine (impl_first.calls k _ _ y293 t296 _ ?_ ?_ A26.out).mono ?_); exact crd HO295; exact (Kd.R_reads' HO295.out).2.1; rintro e w' ⟨rfl, ⟨nd, rfl⟩⟩; refine ⟨_, rfl, ?_⟩; (try ((repeat rw [World.drewN_drewN w31]); rw [drewN_self w31]; generalize hq_ : World.drewN w31 _ = w31; have n0_ : Aside0 (Kd.R (Kd.int .i64) 2 w31 w.heap.size (fun _ => True) (.slice Ao33 y293.length co33) y293) := ⟨by rw [← hq_]; exact (rpl HO295.out)⟩; have n1_ : Aside0 (w31.heap[gb281]? = some (.cells #[.int .i64 0, .slice none 0 0] 28 (0, 0))) := ⟨by rw [← hq_]; exact (bpl BK281.out)⟩; have n2_ : Aside0 (Below w.heap.size w w31) := ⟨by rw [← hq_]; exact bnx⟩; clear HO295 BK281 HB hq_; have HO295 := n0_; have BK281 := n1_; have HB := n2_; clear n0_ n1_ n2_))) | ((with_reducible refine gate_callee (f := 157) rfl ?_); refine gl_ 28 Try.func157 #[.slice A0 l0.length c0, .int .i64 a1, .int .i64 a2] ?_; (with_reducible refine (impl_shapeOf.calls k _ _ l0 a1 a2 t297 _ ?_ ?_ A28.out).mono ?_); exact cpl HR0.out; exact HC0.out; rintro e w34 ⟨v298, rfl, ho0, hb⟩; refine ⟨_, rfl, ?_⟩; have HO299 := am (Kd.R_lower (Kd.R_new' ho0 (rlt HO295)) bsz); replace HO295 := rel HO295 ho0 hb; replace BK281 := bkb BK281 hb; replace HB := hbs hb; (try clear hb); (try clear ho0); obtain ⟨Ao35, co35, eo35⟩ := Kd.R_slice HO299.out; subst eo35; obtain ⟨hcz36_0, hcz36_1, hfz36_0, hfz36_1⟩ := cf2 (W := w34) BK281.out))
   refine bodyPost_ret (results_cell_row rfl _ _ gb281 28 #[.int .i64 0, .slice Ao35 t297.length co35] (0, 0) _ rfl (by (with_reducible repeat (first | refine blk_drewN ?_ _ | refine blk_drew ?_ | refine blk_alloc ?_ _)); refine blk_put (cs := #[.int .i64 0, .slice none 0 0]) ?_ 1 _ rfl; (with_reducible repeat (first | refine blk_drewN ?_ _ | refine blk_drew ?_ | refine blk_alloc ?_ _)); refine blk_put (cs := #[.int .i64 0, .slice none 0 0]) ?_ 0 _ rfl; exact bpl BK281.out) Try.underlying28 rfl (by kernel_rfl)) rfl ?_
   exact ⟨_, enq, by (with_reducible repeat (first | apply Kd.R_alloc | apply Kd.R_drewN | apply Kd.R_drew)); exact Kd.R_mono (Kd.R_far (p := ⟨gb281, 1, none⟩) (Kd.R_far (p := ⟨gb281, 0, none⟩) (Kd.R_types HO299.out BK281.out (by decide)) (fun _ hk => hk.2) (.int .i64 0)) (fun _ hk => hk.2) (.slice Ao35 t297.length co35)) (fun _ hk => trivial), bnx⟩
  ·rw [if_neg c27] at H
   have c27b0 : (t296 == 0) = false := beq_eq_false_iff_ne.mpr c27
   have c27b1 : (t296 != 0) = true := bne_iff_ne.mpr c27
   simp only [Option.some.injEq, Prod.mk.injEq] at H
   obtain ⟨rfl, rfl⟩ := H
   go_enter Try.func69, Try.ntmps69
   go_wp2_with (first | ((with_reducible refine gate_dst (N := 6) rfl ?_); refine bev 6 28 #[.int .i64 0, .slice none 0 0] ?_; intro gb281 hg w37 hbox hb; have BK281 := am hbox; have GW281 := gwe hg; have GE281 := gwe hg; replace HB := hbs hb; clear hb hbox hg) | ((with_reducible refine gate_callee (f := 42) rfl ?_); refine gl_ 10 Try.func42 #[.slice A0 l0.length c0, .int .i64 a1] ?_; (with_reducible refine (impl_PulsesFault.calls k _ _ l0 a1 t282 _ ?_ ?_ A4.out).mono ?_); exact cpl HR0.out; exact HC0.out; rintro e w38 ⟨rfl, hb⟩; refine ⟨_, rfl, ?_⟩; replace BK281 := bkb BK281 hb; replace HB := hbs hb; (try clear hb)) | (go_at_call 156; (with_reducible refine (impl_isGain.calls a2 t291 _ A24.out).mono ?_); rintro e w' ⟨rfl, ⟨nd, rfl⟩⟩; (try ((repeat rw [World.drewN_drewN w38]); rw [drewN_self w38]; generalize hq_ : World.drewN w38 _ = w38; have n0_ : Aside0 (w38.heap[gb281]? = some (.cells #[.int .i64 0, .slice none 0 0] 28 (0, 0))) := ⟨by rw [← hq_]; exact (bpl BK281.out)⟩; have n1_ : Aside0 (Below w.heap.size w w38) := ⟨by rw [← hq_]; exact bnx⟩; clear BK281 HB hq_; have BK281 := n0_; have HB := n1_; clear n0_ n1_))) | ((with_reducible refine gate_callee (f := 118) rfl ?_); refine gl_ 18 Try.func118 #[.bool (!t291), .int .i64 3] ?_; (with_reducible refine (impl_codeIf.calls (!t291) 3 t292 _ A25.out).mono ?_); rintro e w' ⟨rfl, ⟨nd, rfl⟩⟩; refine ⟨_, rfl, ?_⟩; (try ((repeat rw [World.drewN_drewN w38]); rw [drewN_self w38]; generalize hq_ : World.drewN w38 _ = w38; have n0_ : Aside0 (w38.heap[gb281]? = some (.cells #[.int .i64 0, .slice none 0 0] 28 (0, 0))) := ⟨by rw [← hq_]; exact (bpl BK281.out)⟩; have n1_ : Aside0 (Below w.heap.size w w38) := ⟨by rw [← hq_]; exact bnx⟩; clear BK281 HB hq_; have BK281 := n0_; have HB := n1_; clear n0_ n1_))) | ((with_reducible refine gate_dst (N := 19) rfl ?_); refine Kd.R_lit (Kd.int .i64) _ 2 ?hg (N := 19) ?hd (xs := ([t282, t292] : List Int)) (inner := [.int .i64 t282, .int .i64 t292]) (ok := fun _ => True) (okp := fun _ => True) ?hr ?hp (fun _ hk => hk) trivial (Below.refl _ _) (Nat.le_refl _) (by simp) ?_; (case hd => rfl); (case hg => rfl); (case hr => first | (go_simp; done) | (go_simp; rfl)); (case hp => exact (Reps.one (show Kd.M (Kd.int .i64) _ _ _ t282 [.int .i64 t282] from rfl) (Reps.one (show Kd.M (Kd.int .i64) _ _ _ t292 [.int .i64 t292] from rfl) (Reps.none _ _)))); intro v294 w39 ho40 hb hg_ hnew_; clear hg_ hnew_; (first | rw [← Ny293.out] at ho40 | (simp only [Int.reduceToNat] at ho40; rw [← Ny293.out] at ho40)); have HO295 := rlw ho40; replace BK281 := bkb BK281 hb; replace HB := hbs hb; clear hb ho40; obtain ⟨Ao41, co41, eo41⟩ := Kd.R_slice HO295.out; subst eo41) | ((with_reducible refine gate_callee (f := 117) rfl ?_); refine gl_ 20 Try.func117 #[.slice Ao41 y293.length co41] ?_; (with_reducible refine (impl_first.calls k _ _ y293 t296 _ ?_ ?_ A26.out).mono ?_); exact crd HO295; exact (Kd.R_reads' HO295.out).2.1; rintro e w' ⟨rfl, ⟨nd, rfl⟩⟩; refine ⟨_, rfl, ?_⟩; (try ((repeat rw [World.drewN_drewN w39]); rw [drewN_self w39]; generalize hq_ : World.drewN w39 _ = w39; have n0_ : Aside0 (Kd.R (Kd.int .i64) 2 w39 w.heap.size (fun _ => True) (.slice Ao41 y293.length co41) y293) := ⟨by rw [← hq_]; exact (rpl HO295.out)⟩; have n1_ : Aside0 (w39.heap[gb281]? = some (.cells #[.int .i64 0, .slice none 0 0] 28 (0, 0))) := ⟨by rw [← hq_]; exact (bpl BK281.out)⟩; have n2_ : Aside0 (Below w.heap.size w w39) := ⟨by rw [← hq_]; exact bnx⟩; clear HO295 BK281 HB hq_; have HO295 := n0_; have BK281 := n1_; have HB := n2_; clear n0_ n1_ n2_)); obtain ⟨hcz42_0, hcz42_1, hfz42_0, hfz42_1⟩ := cf2 (W := w39) BK281.out))
   refine bodyPost_ret (results_cell_row rfl _ _ gb281 28 #[.int .i64 t296, .slice none 0 0] (0, 0) _ rfl (by (with_reducible repeat (first | refine blk_drewN ?_ _ | refine blk_drew ?_ | refine blk_alloc ?_ _)); refine blk_put (cs := #[.int .i64 t296, .slice none 0 0]) ?_ 1 _ rfl; (with_reducible repeat (first | refine blk_drewN ?_ _ | refine blk_drew ?_ | refine blk_alloc ?_ _)); refine blk_put (cs := #[.int .i64 0, .slice none 0 0]) ?_ 0 _ rfl; exact bpl BK281.out) Try.underlying28 rfl (by kernel_rfl)) rfl ?_
   exact ⟨_, enq, by first | exact Kd.R_nil _ _ _ _ _ | exact Kd.N_nil _ _ _ _ _ | exact Kd.V_nil _ _ _ _ _ | exact Kd.Q_nil _ _ _ _ _ | exact Kd.S_nil _ _ _ _ _, bnx⟩

/-! ### impl_floorDiv: function 173 -/
def impl_floorDiv.f (a0 : Int) (a1 : Int) : Option (Int) := if a1 = 0 then (none) else (if (Int.tmod a0 a1) < 0 then (some (wrap64 ((wrap64 (Int.tdiv a0 a1)) - 1))) else (some (wrap64 (Int.tdiv a0 a1))))
set_option maxHeartbeats 8000000 in
set_option maxRecDepth 100000 in
theorem impl_floorDiv.calls (a0 : Int) (a1 : Int) (r : Int) (w : World) (h : impl_floorDiv.f a0 a1 = some r) :
  Calls Try.prog 173 #[.int .i64 a0, .int .i64 a1] w fun e w' => e = .returned (.int .i64 r) ∧ Drawn0 w w' := by
 have H : (if a1 = 0 then (none) else (if (Int.tmod a0 a1) < 0 then (some (wrap64 ((wrap64 (Int.tdiv a0 a1)) - 1))) else (some (wrap64 (Int.tdiv a0 a1))))) = some r := h
 clear h
 by_cases c3 : a1 = 0
 ·rw [if_pos c3] at H
  exact absurd H (by simp)
 ·rw [if_neg c3] at H
  have c3b0 : (a1 == 0) = false := beq_eq_false_iff_ne.mpr c3
  have c3b1 : (a1 != 0) = true := bne_iff_ne.mpr c3
  by_cases c4 : (Int.tmod a0 a1) < 0
  ·rw [if_pos c4] at H
   have c4b0 : decide ((Int.tmod a0 a1) < 0) = true := decide_eq_true c4
   clear c4
   obtain rfl := Option.some.inj H
   go_enter Try.func173, Try.ntmps173
   go_wp2
   go_ret
   exact dsq
  ·rw [if_neg c4] at H
   have c4b0 : decide ((Int.tmod a0 a1) < 0) = false := decide_eq_false c4
   clear c4
   obtain rfl := Option.some.inj H
   go_enter Try.func173, Try.ntmps173
   go_wp2
   go_ret
   exact dsq

/-! ### impl_ceilDiv: function 207 -/
def impl_ceilDiv.f (a0 : Int) (a1 : Int) : Option (Int) := (impl_floorDiv.f (wrap64 (-a0)) a1).bind fun t300 => (some (wrap64 (-t300)))
set_option maxHeartbeats 8000000 in
set_option maxRecDepth 100000 in
theorem impl_ceilDiv.calls (a0 : Int) (a1 : Int) (r : Int) (w : World) (h : impl_ceilDiv.f a0 a1 = some r) :
  Calls Try.prog 207 #[.int .i64 a0, .int .i64 a1] w fun e w' => e = .returned (.int .i64 r) ∧ Drawn0 w w' := by
 have H : ((impl_floorDiv.f (wrap64 (-a0)) a1).bind fun t300 => (some (wrap64 (-t300)))) = some r := h
 clear h
 replace H := bnd H
 obtain ⟨t300, A3, H⟩ := H
 obtain rfl := Option.some.inj H
 go_enter Try.func207, Try.ntmps207
 go_wp2_with (first | ((with_reducible refine gate_callee (f := 173) rfl ?_); refine gl_ 8 Try.func173 #[.int .i64 (wrap64 (-a0)), .int .i64 a1] ?_; (with_reducible refine (impl_floorDiv.calls (wrap64 (-a0)) a1 t300 _ A3.out).mono ?_); rintro e w' ⟨rfl, ⟨nd, rfl⟩⟩; refine ⟨_, rfl, ?_⟩))
 go_ret
 exact dsq

/-! ### impl_shapeBound: function 158 -/
def impl_shapeBound.f (a0 : Int) (a1 : Int) (a2 : Int) : Option (Int) := (impl_ceilDiv.f a0 a1).bind fun t301 => (some (wrap64 ((wrap64 (t301 + a2)) + 1)))
set_option maxHeartbeats 8000000 in
set_option maxRecDepth 100000 in
theorem impl_shapeBound.calls (a0 : Int) (a1 : Int) (a2 : Int) (r : Int) (w : World) (h : impl_shapeBound.f a0 a1 a2 = some r) :
  Calls Try.prog 158 #[.int .i64 a0, .int .i64 a1, .int .i64 a2] w fun e w' => e = .returned (.int .i64 r) ∧ Drawn0 w w' := by
 have H : ((impl_ceilDiv.f a0 a1).bind fun t301 => (some (wrap64 ((wrap64 (t301 + a2)) + 1)))) = some r := h
 clear h
 replace H := bnd H
 obtain ⟨t301, A4, H⟩ := H
 obtain rfl := Option.some.inj H
 go_enter Try.func158, Try.ntmps158
 go_wp2_with (first | ((with_reducible refine gate_callee (f := 207) rfl ?_); refine gl_ 9 Try.func207 #[.int .i64 a0, .int .i64 a1] ?_; (with_reducible refine (impl_ceilDiv.calls a0 a1 t301 _ A4.out).mono ?_); rintro e w' ⟨rfl, ⟨nd, rfl⟩⟩; refine ⟨_, rfl, ?_⟩))
 go_ret
 exact dsq

/-! ### impl_ShapeBound: function 70 -/
def impl_ShapeBound.f (a0 : Int) (a1 : Int) (a2 : Int) : Option (Int × Int) := (impl_isGain.f a0).bind fun t303 => (if t303 = true then ((impl_isGain.f a2).bind fun t304 => (if t304 = true then ((impl_inRange.f a1 1 8).bind fun t305 => (if t305 = true then ((impl_shapeBound.f a0 a1 a2).bind fun t306 => (some (0, t306))) else (some (3, 0)))) else (some (3, 0)))) else (some (3, 0)))
set_option maxHeartbeats 8000000 in
set_option maxRecDepth 100000 in
theorem impl_ShapeBound.calls (a0 : Int) (a1 : Int) (a2 : Int) (r1 : Int) (r2 : Int) (w : World) (h : impl_ShapeBound.f a0 a1 a2 = some (r1, r2)) :
  Calls Try.prog 70 #[.int .i64 a0, .int .i64 a1, .int .i64 a2] w fun e w' => e = .returned (.agg #[.int .i64 r1, .int .i64 r2]) ∧ Below w.heap.size w w' := by
 have hu31 := Try.underlying31
 have HB := Aside0.mk (Below.refl w.heap.size w)
 have H : ((impl_isGain.f a0).bind fun t303 => (if t303 = true then ((impl_isGain.f a2).bind fun t304 => (if t304 = true then ((impl_inRange.f a1 1 8).bind fun t305 => (if t305 = true then ((impl_shapeBound.f a0 a1 a2).bind fun t306 => (some (0, t306))) else (some (3, 0)))) else (some (3, 0)))) else (some (3, 0)))) = some (r1, r2) := h
 clear h
 replace H := bnd H
 obtain ⟨t303, A4, H⟩ := H
 by_cases c5 : t303 = true
 ·subst c5
  replace H : ((impl_isGain.f a2).bind fun t304 => (if t304 = true then ((impl_inRange.f a1 1 8).bind fun t305 => (if t305 = true then ((impl_shapeBound.f a0 a1 a2).bind fun t306 => (some (0, t306))) else (some (3, 0)))) else (some (3, 0)))) = some (r1, r2) := by rw [if_pos rfl] at H; exact H
  replace H := bnd H
  obtain ⟨t304, A6, H⟩ := H
  by_cases c7 : t304 = true
  ·subst c7
   replace H : ((impl_inRange.f a1 1 8).bind fun t305 => (if t305 = true then ((impl_shapeBound.f a0 a1 a2).bind fun t306 => (some (0, t306))) else (some (3, 0)))) = some (r1, r2) := by rw [if_pos rfl] at H; exact H
   replace H := bnd H
   obtain ⟨t305, A8, H⟩ := H
   by_cases c9 : t305 = true
   ·subst c9
    replace H : ((impl_shapeBound.f a0 a1 a2).bind fun t306 => (some (0, t306))) = some (r1, r2) := by rw [if_pos rfl] at H; exact H
    replace H := bnd H
    obtain ⟨t306, A10, H⟩ := H
    simp only [Option.some.injEq, Prod.mk.injEq] at H
    obtain ⟨rfl, rfl⟩ := H
    go_enter Try.func70, Try.ntmps70
    go_wp2_with (first | ((with_reducible refine gate_dst (N := 6) rfl ?_); refine bev 6 31 #[.int .i64 0, .int .i64 0] ?_; intro gb302 hg w11 hbox hb; have BK302 := am hbox; have GW302 := gwe hg; have GE302 := gwe hg; replace HB := hbs hb; clear hb hbox hg) | ((with_reducible refine gate_callee (f := 156) rfl ?_); refine gl_ 8 Try.func156 #[.int .i64 a0] ?_; (with_reducible refine (impl_isGain.calls a0 true _ A4.out).mono ?_); rintro e w' ⟨rfl, ⟨nd, rfl⟩⟩; refine ⟨_, rfl, ?_⟩; (try ((repeat rw [World.drewN_drewN w11]); rw [drewN_self w11]; generalize hq_ : World.drewN w11 _ = w11; have n0_ : Aside0 (w11.heap[gb302]? = some (.cells #[.int .i64 0, .int .i64 0] 31 (0, 0))) := ⟨by rw [← hq_]; exact (bpl BK302.out)⟩; have n1_ : Aside0 (Below w.heap.size w w11) := ⟨by rw [← hq_]; exact bnx⟩; clear BK302 HB hq_; have BK302 := n0_; have HB := n1_; clear n0_ n1_))) | (go_at_call 156; (with_reducible refine (impl_isGain.calls a2 true _ A6.out).mono ?_); rintro e w' ⟨rfl, ⟨nd, rfl⟩⟩; (try ((repeat rw [World.drewN_drewN w11]); rw [drewN_self w11]; generalize hq_ : World.drewN w11 _ = w11; have n0_ : Aside0 (w11.heap[gb302]? = some (.cells #[.int .i64 0, .int .i64 0] 31 (0, 0))) := ⟨by rw [← hq_]; exact (bpl BK302.out)⟩; have n1_ : Aside0 (Below w.heap.size w w11) := ⟨by rw [← hq_]; exact bnx⟩; clear BK302 HB hq_; have BK302 := n0_; have HB := n1_; clear n0_ n1_))) | (go_at_call 125; (with_reducible refine (impl_inRange.calls a1 1 8 true _ A8.out).mono ?_); rintro e w' ⟨rfl, ⟨nd, rfl⟩⟩; (try ((repeat rw [World.drewN_drewN w11]); rw [drewN_self w11]; generalize hq_ : World.drewN w11 _ = w11; have n0_ : Aside0 (w11.heap[gb302]? = some (.cells #[.int .i64 0, .int .i64 0] 31 (0, 0))) := ⟨by rw [← hq_]; exact (bpl BK302.out)⟩; have n1_ : Aside0 (Below w.heap.size w w11) := ⟨by rw [← hq_]; exact bnx⟩; clear BK302 HB hq_; have BK302 := n0_; have HB := n1_; clear n0_ n1_))) | ((with_reducible refine gate_callee (f := 158) rfl ?_); refine gl_ 24 Try.func158 #[.int .i64 a0, .int .i64 a1, .int .i64 a2] ?_; (with_reducible refine (impl_shapeBound.calls a0 a1 a2 t306 _ A10.out).mono ?_); rintro e w' ⟨rfl, ⟨nd, rfl⟩⟩; refine ⟨_, rfl, ?_⟩; (try ((repeat rw [World.drewN_drewN w11]); rw [drewN_self w11]; generalize hq_ : World.drewN w11 _ = w11; have n0_ : Aside0 (w11.heap[gb302]? = some (.cells #[.int .i64 0, .int .i64 0] 31 (0, 0))) := ⟨by rw [← hq_]; exact (bpl BK302.out)⟩; have n1_ : Aside0 (Below w.heap.size w w11) := ⟨by rw [← hq_]; exact bnx⟩; clear BK302 HB hq_; have BK302 := n0_; have HB := n1_; clear n0_ n1_)); obtain ⟨hcz12_0, hcz12_1, hfz12_0, hfz12_1⟩ := cf2 (W := w11) BK302.out))
    refine bodyPost_ret (results_cell_row rfl _ _ gb302 31 #[.int .i64 0, .int .i64 t306] (0, 0) _ rfl (by (with_reducible repeat (first | refine blk_drewN ?_ _ | refine blk_drew ?_ | refine blk_alloc ?_ _)); refine blk_put (cs := #[.int .i64 0, .int .i64 0]) ?_ 1 _ rfl; (with_reducible repeat (first | refine blk_drewN ?_ _ | refine blk_drew ?_ | refine blk_alloc ?_ _)); refine blk_put (cs := #[.int .i64 0, .int .i64 0]) ?_ 0 _ rfl; exact bpl BK302.out) Try.underlying31 rfl (by kernel_rfl)) rfl ?_
    exact ⟨enq, bnx⟩
   ·replace c9 := Bool.eq_false_iff.mpr c9
    subst c9
    replace H : (some (3, 0)) = some (r1, r2) := by rw [if_neg (show ¬ (false = true) by decide)] at H; exact H
    simp only [Option.some.injEq, Prod.mk.injEq] at H
    obtain ⟨rfl, rfl⟩ := H
    go_enter Try.func70, Try.ntmps70
    go_wp2_with (first | ((with_reducible refine gate_dst (N := 6) rfl ?_); refine bev 6 31 #[.int .i64 0, .int .i64 0] ?_; intro gb302 hg w13 hbox hb; have BK302 := am hbox; have GW302 := gwe hg; have GE302 := gwe hg; replace HB := hbs hb; clear hb hbox hg) | ((with_reducible refine gate_callee (f := 156) rfl ?_); refine gl_ 8 Try.func156 #[.int .i64 a0] ?_; (with_reducible refine (impl_isGain.calls a0 true _ A4.out).mono ?_); rintro e w' ⟨rfl, ⟨nd, rfl⟩⟩; refine ⟨_, rfl, ?_⟩; (try ((repeat rw [World.drewN_drewN w13]); rw [drewN_self w13]; generalize hq_ : World.drewN w13 _ = w13; have n0_ : Aside0 (w13.heap[gb302]? = some (.cells #[.int .i64 0, .int .i64 0] 31 (0, 0))) := ⟨by rw [← hq_]; exact (bpl BK302.out)⟩; have n1_ : Aside0 (Below w.heap.size w w13) := ⟨by rw [← hq_]; exact bnx⟩; clear BK302 HB hq_; have BK302 := n0_; have HB := n1_; clear n0_ n1_))) | (go_at_call 156; (with_reducible refine (impl_isGain.calls a2 true _ A6.out).mono ?_); rintro e w' ⟨rfl, ⟨nd, rfl⟩⟩; (try ((repeat rw [World.drewN_drewN w13]); rw [drewN_self w13]; generalize hq_ : World.drewN w13 _ = w13; have n0_ : Aside0 (w13.heap[gb302]? = some (.cells #[.int .i64 0, .int .i64 0] 31 (0, 0))) := ⟨by rw [← hq_]; exact (bpl BK302.out)⟩; have n1_ : Aside0 (Below w.heap.size w w13) := ⟨by rw [← hq_]; exact bnx⟩; clear BK302 HB hq_; have BK302 := n0_; have HB := n1_; clear n0_ n1_))) | (go_at_call 125; (with_reducible refine (impl_inRange.calls a1 1 8 false _ A8.out).mono ?_); rintro e w' ⟨rfl, ⟨nd, rfl⟩⟩; (try ((repeat rw [World.drewN_drewN w13]); rw [drewN_self w13]; generalize hq_ : World.drewN w13 _ = w13; have n0_ : Aside0 (w13.heap[gb302]? = some (.cells #[.int .i64 0, .int .i64 0] 31 (0, 0))) := ⟨by rw [← hq_]; exact (bpl BK302.out)⟩; have n1_ : Aside0 (Below w.heap.size w w13) := ⟨by rw [← hq_]; exact bnx⟩; clear BK302 HB hq_; have BK302 := n0_; have HB := n1_; clear n0_ n1_)); obtain ⟨hcz14_0, hcz14_1, hfz14_0, hfz14_1⟩ := cf2 (W := w13) BK302.out))
    refine bodyPost_ret (results_cell_row rfl _ _ gb302 31 #[.int .i64 3, .int .i64 0] (0, 0) _ rfl (by (with_reducible repeat (first | refine blk_drewN ?_ _ | refine blk_drew ?_ | refine blk_alloc ?_ _)); refine blk_put (cs := #[.int .i64 3, .int .i64 0]) ?_ 1 _ rfl; (with_reducible repeat (first | refine blk_drewN ?_ _ | refine blk_drew ?_ | refine blk_alloc ?_ _)); refine blk_put (cs := #[.int .i64 0, .int .i64 0]) ?_ 0 _ rfl; exact bpl BK302.out) Try.underlying31 rfl (by kernel_rfl)) rfl ?_
    exact ⟨enq, bnx⟩
  ·replace c7 := Bool.eq_false_iff.mpr c7
   subst c7
   replace H : (some (3, 0)) = some (r1, r2) := by rw [if_neg (show ¬ (false = true) by decide)] at H; exact H
   simp only [Option.some.injEq, Prod.mk.injEq] at H
   obtain ⟨rfl, rfl⟩ := H
   go_enter Try.func70, Try.ntmps70
   go_wp2_with (first | ((with_reducible refine gate_dst (N := 6) rfl ?_); refine bev 6 31 #[.int .i64 0, .int .i64 0] ?_; intro gb302 hg w15 hbox hb; have BK302 := am hbox; have GW302 := gwe hg; have GE302 := gwe hg; replace HB := hbs hb; clear hb hbox hg) | ((with_reducible refine gate_callee (f := 156) rfl ?_); refine gl_ 8 Try.func156 #[.int .i64 a0] ?_; (with_reducible refine (impl_isGain.calls a0 true _ A4.out).mono ?_); rintro e w' ⟨rfl, ⟨nd, rfl⟩⟩; refine ⟨_, rfl, ?_⟩; (try ((repeat rw [World.drewN_drewN w15]); rw [drewN_self w15]; generalize hq_ : World.drewN w15 _ = w15; have n0_ : Aside0 (w15.heap[gb302]? = some (.cells #[.int .i64 0, .int .i64 0] 31 (0, 0))) := ⟨by rw [← hq_]; exact (bpl BK302.out)⟩; have n1_ : Aside0 (Below w.heap.size w w15) := ⟨by rw [← hq_]; exact bnx⟩; clear BK302 HB hq_; have BK302 := n0_; have HB := n1_; clear n0_ n1_))) | (go_at_call 156; (with_reducible refine (impl_isGain.calls a2 false _ A6.out).mono ?_); rintro e w' ⟨rfl, ⟨nd, rfl⟩⟩; (try ((repeat rw [World.drewN_drewN w15]); rw [drewN_self w15]; generalize hq_ : World.drewN w15 _ = w15; have n0_ : Aside0 (w15.heap[gb302]? = some (.cells #[.int .i64 0, .int .i64 0] 31 (0, 0))) := ⟨by rw [← hq_]; exact (bpl BK302.out)⟩; have n1_ : Aside0 (Below w.heap.size w w15) := ⟨by rw [← hq_]; exact bnx⟩; clear BK302 HB hq_; have BK302 := n0_; have HB := n1_; clear n0_ n1_)); obtain ⟨hcz16_0, hcz16_1, hfz16_0, hfz16_1⟩ := cf2 (W := w15) BK302.out))
   refine bodyPost_ret (results_cell_row rfl _ _ gb302 31 #[.int .i64 3, .int .i64 0] (0, 0) _ rfl (by (with_reducible repeat (first | refine blk_drewN ?_ _ | refine blk_drew ?_ | refine blk_alloc ?_ _)); refine blk_put (cs := #[.int .i64 3, .int .i64 0]) ?_ 1 _ rfl; (with_reducible repeat (first | refine blk_drewN ?_ _ | refine blk_drew ?_ | refine blk_alloc ?_ _)); refine blk_put (cs := #[.int .i64 0, .int .i64 0]) ?_ 0 _ rfl; exact bpl BK302.out) Try.underlying31 rfl (by kernel_rfl)) rfl ?_
   exact ⟨enq, bnx⟩
 ·replace c5 := Bool.eq_false_iff.mpr c5
  subst c5
  replace H : (some (3, 0)) = some (r1, r2) := by rw [if_neg (show ¬ (false = true) by decide)] at H; exact H
  simp only [Option.some.injEq, Prod.mk.injEq] at H
  obtain ⟨rfl, rfl⟩ := H
  go_enter Try.func70, Try.ntmps70
  go_wp2_with (first | ((with_reducible refine gate_dst (N := 6) rfl ?_); refine bev 6 31 #[.int .i64 0, .int .i64 0] ?_; intro gb302 hg w17 hbox hb; have BK302 := am hbox; have GW302 := gwe hg; have GE302 := gwe hg; replace HB := hbs hb; clear hb hbox hg) | ((with_reducible refine gate_callee (f := 156) rfl ?_); refine gl_ 8 Try.func156 #[.int .i64 a0] ?_; (with_reducible refine (impl_isGain.calls a0 false _ A4.out).mono ?_); rintro e w' ⟨rfl, ⟨nd, rfl⟩⟩; refine ⟨_, rfl, ?_⟩; (try ((repeat rw [World.drewN_drewN w17]); rw [drewN_self w17]; generalize hq_ : World.drewN w17 _ = w17; have n0_ : Aside0 (w17.heap[gb302]? = some (.cells #[.int .i64 0, .int .i64 0] 31 (0, 0))) := ⟨by rw [← hq_]; exact (bpl BK302.out)⟩; have n1_ : Aside0 (Below w.heap.size w w17) := ⟨by rw [← hq_]; exact bnx⟩; clear BK302 HB hq_; have BK302 := n0_; have HB := n1_; clear n0_ n1_)); obtain ⟨hcz18_0, hcz18_1, hfz18_0, hfz18_1⟩ := cf2 (W := w17) BK302.out))
  refine bodyPost_ret (results_cell_row rfl _ _ gb302 31 #[.int .i64 3, .int .i64 0] (0, 0) _ rfl (by (with_reducible repeat (first | refine blk_drewN ?_ _ | refine blk_drew ?_ | refine blk_alloc ?_ _)); refine blk_put (cs := #[.int .i64 3, .int .i64 0]) ?_ 1 _ rfl; (with_reducible repeat (first | refine blk_drewN ?_ _ | refine blk_drew ?_ | refine blk_alloc ?_ _)); refine blk_put (cs := #[.int .i64 0, .int .i64 0]) ?_ 0 _ rfl; exact bpl BK302.out) Try.underlying31 rfl (by kernel_rfl)) rfl ?_
  exact ⟨enq, bnx⟩

end Go.Proofs.Ytpbkbibjlbbkbaa.PFnShapes
