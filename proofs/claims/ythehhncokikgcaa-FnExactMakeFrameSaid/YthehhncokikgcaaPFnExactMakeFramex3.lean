-- Contracts of the functions that the law reaches, written by wip/xprint.py of this repo.
import Derived.Test.YthehhncokikgcaaPFnExactMakeFramex0
import Derived.Test.YthehhncokikgcaaPFnExactMakeFramex1
import Derived.Test.YthehhncokikgcaaPFnExactMakeFramex2
namespace Go.Proofs.Ythehhncokikgcaa.PFnExactMakeFrame
open Go.RowKit Go.Proofs.YthehhncokikgcaaW.PrintWords Go.Proofs.YthehhncokikgcaaW.PrintLast Go.Proofs.YthehhncokikgcaaW.PrintMore
attribute [local go_sem] max2_int min2_int max_two min_two max_three min_three max_four min_four   -- for this text's walks alone
set_option linter.unusedVariables false
set_option linter.unusedSimpArgs false

/-! ### spec_FrameFault: function 73 -/
mutual
def spec_FrameFault.j0 : Nat → List (S93) → Bool → Int → Int → Int → Int → Int → List Int → List Int → List (List Int) → Option (Int)
 | 0, _, _, _, _, _, _, _, _, _, _ => none
 | k + 1, x4, x47, x138000, x138001, x138002, x138003, x138004, x138005, x138006, x138007 => if x47 = true then (some 2) else (spec_FrameFault.l0 k x4 0 x138000 x138001 x138002 x138003 x138004 x138005 x138006 x138007)
def spec_FrameFault.l0 : Nat → List (S93) → Int → Int → Int → Int → Int → Int → List Int → List Int → List (List Int) → Option (Int)
 | 0, _, _, _, _, _, _, _, _, _, _ => none
 | k + 1, x4, x5, x138000, x138001, x138002, x138003, x138004, x138005, x138006, x138007 => if x5 < (x138005.length : Int) then (if 0 ≤ x5 then ((spec_l10Index.f (rd x138005 x5)).bind fun t143 => (if t143 = true then ((spec_l14Fits.f k (rd x138005 x5) x138002).bind fun t145 => (if t145 = true then (spec_FrameFault.l0 k x4 (wrap64 (x5 + 1)) x138000 x138001 x138002 x138003 x138004 x138005 x138006 x138007) else (some 3))) else (some 3))) else (none)) else ((spec_l13Rung.f x138002 x138003).bind fun t146 => ((spec_l14Gains.f k x138006 t146).bind fun t147 => (if t147 = true then (spec_FrameFault.l1 k x4 0 x138000 x138001 x138002 x138003 x138004 x138005 x138006 x138007) else (some 3))))
def spec_FrameFault.l1 : Nat → List (S93) → Int → Int → Int → Int → Int → Int → List Int → List Int → List (List Int) → Option (Int)
 | 0, _, _, _, _, _, _, _, _, _, _ => none
 | k + 1, x4, x6, x138000, x138001, x138002, x138003, x138004, x138005, x138006, x138007 => if x6 < (x4.length : Int) then (if 0 ≤ x6 then (if x6 < (x138007.length : Int) then (if ((rd_L1 x138007 x6).length : Int) = ((rd_T93 x4 x6).f1) then ((spec_PulsesFault.f k (rd_L1 x138007 x6) (wrap64 (8 - (wrap64 (2 * x138003))))).bind fun t151 => (if t151 = 0 then (spec_FrameFault.l1 k x4 (wrap64 (x6 + 1)) x138000 x138001 x138002 x138003 x138004 x138005 x138006 x138007) else (some t151))) else (some 2)) else (none)) else (none)) else (some 0)
end
def spec_FrameFault.f (k : Nat) (a0_0 : Int) (a0_1 : Int) (a0_2 : Int) (a0_3 : Int) (a0_4 : Int) (l0_5 : List Int) (l0_6 : List Int) (l0_7 : List (List Int)) : Option (Int) := (spec_l14Head.f a0_0 a0_1 a0_2 a0_3 a0_4).bind fun t138 => (if t138 = 0 then ((spec_l13Bands.f a0_1).bind fun t139 => (if (l0_5.length : Int) = (wrap64 (Int.tdiv a0_1 2)) then (if (l0_6.length : Int) = (t139.length : Int) then (spec_FrameFault.j0 k t139 ((l0_7.length : Int) != (t139.length : Int)) a0_0 a0_1 a0_2 a0_3 a0_4 l0_5 l0_6 l0_7) else (spec_FrameFault.j0 k t139 true a0_0 a0_1 a0_2 a0_3 a0_4 l0_5 l0_6 l0_7)) else (spec_FrameFault.j0 k t139 true a0_0 a0_1 a0_2 a0_3 a0_4 l0_5 l0_6 l0_7))) else (some t138))
theorem spec_FrameFault.mono_l : ∀ k, (∀ y0 y1 y2 y3 y4 y5 y6 y7 y8 y9, LeO (spec_FrameFault.j0 k y0 y1 y2 y3 y4 y5 y6 y7 y8 y9) (spec_FrameFault.j0 (k + 1) y0 y1 y2 y3 y4 y5 y6 y7 y8 y9)) ∧ (∀ y0 y1 y2 y3 y4 y5 y6 y7 y8 y9, LeO (spec_FrameFault.l0 k y0 y1 y2 y3 y4 y5 y6 y7 y8 y9) (spec_FrameFault.l0 (k + 1) y0 y1 y2 y3 y4 y5 y6 y7 y8 y9)) ∧ (∀ y0 y1 y2 y3 y4 y5 y6 y7 y8 y9, LeO (spec_FrameFault.l1 k y0 y1 y2 y3 y4 y5 y6 y7 y8 y9) (spec_FrameFault.l1 (k + 1) y0 y1 y2 y3 y4 y5 y6 y7 y8 y9))
 | 0 => ⟨fun _ _ _ _ _ _ _ _ _ _ r h => by simp [spec_FrameFault.j0] at h, fun _ _ _ _ _ _ _ _ _ _ r h => by simp [spec_FrameFault.l0] at h, fun _ _ _ _ _ _ _ _ _ _ r h => by simp [spec_FrameFault.l1] at h⟩
 | k + 1 => by
  obtain ⟨ih0, ih1, ih2⟩ := spec_FrameFault.mono_l k
  refine ⟨?_, ?_, ?_⟩
  ·intro y0 y1 y2 y3 y4 y5 y6 y7 y8 y9
   unfold spec_FrameFault.j0
   repeat' first
   | (with_reducible exact ih0 _ _ _ _ _ _ _ _ _ _)
   | (with_reducible exact ih1 _ _ _ _ _ _ _ _ _ _)
   | (with_reducible exact ih2 _ _ _ _ _ _ _ _ _ _)
   | (with_reducible exact spec_PulsesFault.mono _ _ _)
   | (with_reducible exact spec_l14Fits.mono _ _ _)
   | (with_reducible exact spec_l14Gains.mono _ _ _)
   | (with_reducible exact LeO.refl _)
   | (with_reducible exact LeO.none _)
   | (with_reducible refine LeO.ite ?_ ?_)
   | (with_reducible refine LeO.bind ?_ (fun _ => ?_))
   | exact ih0 _ _ _ _ _ _ _ _ _ _
   | exact ih1 _ _ _ _ _ _ _ _ _ _
   | exact ih2 _ _ _ _ _ _ _ _ _ _
   | exact spec_PulsesFault.mono _ _ _
   | exact spec_l14Fits.mono _ _ _
   | exact spec_l14Gains.mono _ _ _
   | exact LeO.none _
   | refine LeO.ite ?_ ?_
   | refine LeO.bind ?_ (fun _ => ?_)
  ·intro y0 y1 y2 y3 y4 y5 y6 y7 y8 y9
   unfold spec_FrameFault.l0
   repeat' first
   | (with_reducible exact ih0 _ _ _ _ _ _ _ _ _ _)
   | (with_reducible exact ih1 _ _ _ _ _ _ _ _ _ _)
   | (with_reducible exact ih2 _ _ _ _ _ _ _ _ _ _)
   | (with_reducible exact spec_PulsesFault.mono _ _ _)
   | (with_reducible exact spec_l14Fits.mono _ _ _)
   | (with_reducible exact spec_l14Gains.mono _ _ _)
   | (with_reducible exact LeO.refl _)
   | (with_reducible exact LeO.none _)
   | (with_reducible refine LeO.ite ?_ ?_)
   | (with_reducible refine LeO.bind ?_ (fun _ => ?_))
   | exact ih0 _ _ _ _ _ _ _ _ _ _
   | exact ih1 _ _ _ _ _ _ _ _ _ _
   | exact ih2 _ _ _ _ _ _ _ _ _ _
   | exact spec_PulsesFault.mono _ _ _
   | exact spec_l14Fits.mono _ _ _
   | exact spec_l14Gains.mono _ _ _
   | exact LeO.none _
   | refine LeO.ite ?_ ?_
   | refine LeO.bind ?_ (fun _ => ?_)
  ·intro y0 y1 y2 y3 y4 y5 y6 y7 y8 y9
   unfold spec_FrameFault.l1
   repeat' first
   | (with_reducible exact ih0 _ _ _ _ _ _ _ _ _ _)
   | (with_reducible exact ih1 _ _ _ _ _ _ _ _ _ _)
   | (with_reducible exact ih2 _ _ _ _ _ _ _ _ _ _)
   | (with_reducible exact spec_PulsesFault.mono _ _ _)
   | (with_reducible exact spec_l14Fits.mono _ _ _)
   | (with_reducible exact spec_l14Gains.mono _ _ _)
   | (with_reducible exact LeO.refl _)
   | (with_reducible exact LeO.none _)
   | (with_reducible refine LeO.ite ?_ ?_)
   | (with_reducible refine LeO.bind ?_ (fun _ => ?_))
   | exact ih0 _ _ _ _ _ _ _ _ _ _
   | exact ih1 _ _ _ _ _ _ _ _ _ _
   | exact ih2 _ _ _ _ _ _ _ _ _ _
   | exact spec_PulsesFault.mono _ _ _
   | exact spec_l14Fits.mono _ _ _
   | exact spec_l14Gains.mono _ _ _
   | exact LeO.none _
   | refine LeO.ite ?_ ?_
   | refine LeO.bind ?_ (fun _ => ?_)
theorem spec_FrameFault.mono : ∀ a0 a1 a2 a3 a4 a5 a6 a7 k, LeO (spec_FrameFault.f k a0 a1 a2 a3 a4 a5 a6 a7) (spec_FrameFault.f (k + 1) a0 a1 a2 a3 a4 a5 a6 a7) := by
 intro a0 a1 a2 a3 a4 a5 a6 a7 k
 obtain ⟨ih0, ih1, ih2⟩ := spec_FrameFault.mono_l k
 unfold spec_FrameFault.f
 repeat' first
   | (with_reducible exact ih0 _ _ _ _ _ _ _ _ _ _)
   | (with_reducible exact ih1 _ _ _ _ _ _ _ _ _ _)
   | (with_reducible exact ih2 _ _ _ _ _ _ _ _ _ _)
   | (with_reducible exact spec_PulsesFault.mono _ _ _)
   | (with_reducible exact spec_l14Fits.mono _ _ _)
   | (with_reducible exact spec_l14Gains.mono _ _ _)
   | (with_reducible exact LeO.refl _)
   | (with_reducible exact LeO.none _)
   | (with_reducible refine LeO.ite ?_ ?_)
   | (with_reducible refine LeO.bind ?_ (fun _ => ?_))
   | exact ih0 _ _ _ _ _ _ _ _ _ _
   | exact ih1 _ _ _ _ _ _ _ _ _ _
   | exact ih2 _ _ _ _ _ _ _ _ _ _
   | exact spec_PulsesFault.mono _ _ _
   | exact spec_l14Fits.mono _ _ _
   | exact spec_l14Gains.mono _ _ _
   | exact LeO.none _
   | refine LeO.ite ?_ ?_
   | refine LeO.bind ?_ (fun _ => ?_)
set_option maxHeartbeats 8000000 in
set_option maxRecDepth 100000 in
theorem spec_FrameFault.calls (k : Nat) (a0_0 : Int) (a0_1 : Int) (a0_2 : Int) (a0_3 : Int) (a0_4 : Int) (A0_5 : Option Addr) (c0_5 : Nat) (l0_5 : List Int) (A0_6 : Option Addr) (c0_6 : Nat) (l0_6 : List Int) (A0_7 : Option Addr) (c0_7 : Nat) (l0_7 : List (List Int)) (r : Int) (w : World) (hr0_5 : Kd.C (Kd.int .i64) w A0_5 l0_5.length l0_5) (hc0_5 : l0_5.length ≤ c0_5) (hr0_6 : Kd.C (Kd.int .i64) w A0_6 l0_6.length l0_6) (hc0_6 : l0_6.length ≤ c0_6) (hr0_7 : Kd.C (Kd.slice 2 (Kd.int .i64)) w A0_7 l0_7.length l0_7) (hc0_7 : l0_7.length ≤ c0_7) (h : spec_FrameFault.f k a0_0 a0_1 a0_2 a0_3 a0_4 l0_5 l0_6 l0_7 = some r) :
  Calls Try.prog 73 #[.agg #[.int .i64 a0_0, .int .i64 a0_1, .int .i64 a0_2, .int .i64 a0_3, .int .i64 a0_4, .slice A0_5 l0_5.length c0_5, .slice A0_6 l0_6.length c0_6, .slice A0_7 l0_7.length c0_7]] w fun e w' => e = .returned (.int .i64 r) ∧ Below w.heap.size w w' := by
 have hu36 := Try.underlying36
 have HR0_5 := Aside0.mk hr0_5
 have HC0_5 := Aside0.mk hc0_5
 clear hr0_5 hc0_5
 have HR0_6 := Aside0.mk hr0_6
 have HC0_6 := Aside0.mk hc0_6
 clear hr0_6 hc0_6
 have HR0_7 := Aside0.mk hr0_7
 have HC0_7 := Aside0.mk hc0_7
 clear hr0_7 hc0_7
 have HB := Aside0.mk (Below.refl w.heap.size w)
 have H : ((spec_l14Head.f a0_0 a0_1 a0_2 a0_3 a0_4).bind fun t138 => (if t138 = 0 then ((spec_l13Bands.f a0_1).bind fun t139 => (if (l0_5.length : Int) = (wrap64 (Int.tdiv a0_1 2)) then (if (l0_6.length : Int) = (t139.length : Int) then (spec_FrameFault.j0 k t139 ((l0_7.length : Int) != (t139.length : Int)) a0_0 a0_1 a0_2 a0_3 a0_4 l0_5 l0_6 l0_7) else (spec_FrameFault.j0 k t139 true a0_0 a0_1 a0_2 a0_3 a0_4 l0_5 l0_6 l0_7)) else (spec_FrameFault.j0 k t139 true a0_0 a0_1 a0_2 a0_3 a0_4 l0_5 l0_6 l0_7))) else (some t138))) = some r := h
 clear h
 replace H := bnd H
 obtain ⟨t138, A2, H⟩ := H
 by_cases c3 : t138 = 0
 ·rw [if_pos c3] at H
  have c3b0 : (t138 == 0) = true := beq_iff_eq.mpr c3
  have c3b1 : (t138 != 0) = false := bne_eq_false_iff_eq.mpr c3
  clear c3
  replace H := bnd H
  obtain ⟨t139, A4, H⟩ := H
  have HC5 := Aside0.mk H
  clear H
  go_enter Try.func73, Try.ntmps73
  go_upto_region 5 with (first | ((with_reducible refine gate_dst (N := 1) rfl ?_); (try (refine gate_guard (by rfl) ?_; dsimp only)); refine bev 1 36 #[.int .i64 a0_0, .int .i64 a0_1, .int .i64 a0_2, .int .i64 a0_3, .int .i64 a0_4, .slice A0_5 l0_5.length c0_5, .slice A0_6 l0_6.length c0_6, .slice A0_7 l0_7.length c0_7] ?_; intro gb137 hg w6 hbox hb; have BK137 := am hbox; have GW137 := gwe hg; have GE137 := gwe hg; replace HB := hbs hb; clear hb hbox hg; obtain ⟨hcz7_0, hcz7_1, hcz7_2, hcz7_3, hcz7_4, hcz7_5, hcz7_6, hcz7_7, hfz7_0, hfz7_1, hfz7_2, hfz7_3, hfz7_4, hfz7_5, hfz7_6, hfz7_7⟩ := cf8 (W := w6) BK137.out) | (go_at_call 144; (with_reducible refine (spec_l14Head.calls a0_0 a0_1 a0_2 a0_3 a0_4 t138 _ A2.out).mono ?_); rintro e w' ⟨rfl, ⟨nd, rfl⟩⟩; (try first | exact ⟨rfl, _, World.drewN_drewN _ _ _⟩ | exact ⟨rfl, _, Eq.trans (World.drewN_drewN _ _ _) (congrArg (World.drewN _) (Nat.add_assoc _ _ _))⟩)) | (go_at_call 145; (with_reducible refine (spec_l13Bands.calls a0_1 t139 _ A4.out).mono ?_); rintro e w8 ⟨v140, rfl, ho0, hb⟩; have HO141 := rlw ho0; replace BK137 := bkb BK137 hb; replace HB := hbs hb; (try clear hb); (try clear ho0)))
  repeat (go_quiet (fail); go_upto_region 5 with (first | ((with_reducible refine gate_dst (N := 1) rfl ?_); (try (refine gate_guard (by rfl) ?_; dsimp only)); refine bev 1 36 #[.int .i64 a0_0, .int .i64 a0_1, .int .i64 a0_2, .int .i64 a0_3, .int .i64 a0_4, .slice A0_5 l0_5.length c0_5, .slice A0_6 l0_6.length c0_6, .slice A0_7 l0_7.length c0_7] ?_; intro gb137 hg w6 hbox hb; have BK137 := am hbox; have GW137 := gwe hg; have GE137 := gwe hg; replace HB := hbs hb; clear hb hbox hg; obtain ⟨hcz7_0, hcz7_1, hcz7_2, hcz7_3, hcz7_4, hcz7_5, hcz7_6, hcz7_7, hfz7_0, hfz7_1, hfz7_2, hfz7_3, hfz7_4, hfz7_5, hfz7_6, hfz7_7⟩ := cf8 (W := w6) BK137.out) | (go_at_call 144; (with_reducible refine (spec_l14Head.calls a0_0 a0_1 a0_2 a0_3 a0_4 t138 _ A2.out).mono ?_); rintro e w' ⟨rfl, ⟨nd, rfl⟩⟩; (try first | exact ⟨rfl, _, World.drewN_drewN _ _ _⟩ | exact ⟨rfl, _, Eq.trans (World.drewN_drewN _ _ _) (congrArg (World.drewN _) (Nat.add_assoc _ _ _))⟩)) | (go_at_call 145; (with_reducible refine (spec_l13Bands.calls a0_1 t139 _ A4.out).mono ?_); rintro e w8 ⟨v140, rfl, ho0, hb⟩; have HO141 := rlw ho0; replace BK137 := bkb BK137 hb; replace HB := hbs hb; (try clear hb); (try clear ho0))))
  (try simp only [Act.put, List.setIfInBounds_toArray, List.set_cons_zero, List.set_cons_succ])
  go_cut [47] (fun v47 wc => ∃ (kq : Nat) (x47_4 : Bool), v47 = .bool x47_4 ∧ Aside0 (spec_FrameFault.j0 kq t139 x47_4 a0_0 a0_1 a0_2 a0_3 a0_4 l0_5 l0_6 l0_7 = some r) ∧ Aside0 (kq ≤ k) ∧ Aside0 (Kd.R k93 93 wc w.heap.size (fun _ => True) v140 t139) ∧ Aside0 (wc.heap[gb137]? = some (.cells #[.int .i64 a0_0, .int .i64 a0_1, .int .i64 a0_2, .int .i64 a0_3, .int .i64 a0_4, (.slice A0_5 l0_5.length c0_5), (.slice A0_6 l0_6.length c0_6), (.slice A0_7 l0_7.length c0_7)] 36 (0, 0))) ∧ Aside0 (Below w.heap.size w wc))
  case first =>
   have H := HC5.out
   clear HC5
   by_cases c9 : (l0_5.length : Int) = (wrap64 (Int.tdiv a0_1 2))
   ·rw [if_pos c9] at H
    have c9b0 : ((l0_5.length : Int) == (wrap64 (Int.tdiv a0_1 2))) = true := beq_iff_eq.mpr c9
    have c9b1 : ((l0_5.length : Int) != (wrap64 (Int.tdiv a0_1 2))) = false := bne_eq_false_iff_eq.mpr c9
    clear c9
    (first | rw [c9b0] | (simp only [i64_w, i32_w]; rw [c9b0]) | skip)
    by_cases c10 : (l0_6.length : Int) = (t139.length : Int)
    ·rw [if_pos c10] at H
     have c10b0 : ((l0_6.length : Int) == (t139.length : Int)) = true := beq_iff_eq.mpr c10
     have c10b1 : ((l0_6.length : Int) != (t139.length : Int)) = false := bne_eq_false_iff_eq.mpr c10
     have c10b2 : (l0_6.length == t139.length) = true := by first | simpa using c10 | (simp at c10 ⊢; omega)
     clear c10
     have H' := Aside0.mk H
     clear H
     obtain ⟨hcz11_0, hcz11_1, hcz11_2, hcz11_3, hcz11_4, hcz11_5, hcz11_6, hcz11_7, hfz11_0, hfz11_1, hfz11_2, hfz11_3, hfz11_4, hfz11_5, hfz11_6, hfz11_7⟩ := cf8 (W := w8) BK137.out
     obtain ⟨Ao12, co12, eo12⟩ := Kd.R_slice HO141.out
     subst eo12
     go_wp2
     repeat (go_quiet (fail); try go_wp2)
     go_meet
     case rel => exact ⟨_, (((l0_7.length : Int) != (t139.length : Int))), rq, H', ⟨by first | omega | exact Nat.le_refl _⟩, ⟨by (with_reducible repeat (first | apply Kd.R_alloc | apply Kd.R_drewN | apply Kd.R_drew)); exact HO141.out⟩, ⟨bpl BK137.out⟩, ⟨bnx⟩⟩
    ·rw [if_neg c10] at H
     have c10b0 : ((l0_6.length : Int) == (t139.length : Int)) = false := beq_eq_false_iff_ne.mpr c10
     have c10b1 : ((l0_6.length : Int) != (t139.length : Int)) = true := bne_iff_ne.mpr c10
     have c10b2 : (l0_6.length == t139.length) = false := by first | simpa using c10 | (simp at c10 ⊢; omega)
     have H' := Aside0.mk H
     clear H
     obtain ⟨hcz13_0, hcz13_1, hcz13_2, hcz13_3, hcz13_4, hcz13_5, hcz13_6, hcz13_7, hfz13_0, hfz13_1, hfz13_2, hfz13_3, hfz13_4, hfz13_5, hfz13_6, hfz13_7⟩ := cf8 (W := w8) BK137.out
     obtain ⟨Ao14, co14, eo14⟩ := Kd.R_slice HO141.out
     subst eo14
     go_wp2
     repeat (go_quiet (fail); try go_wp2)
     go_meet
     case rel => exact ⟨_, (true), rq, H', ⟨by first | omega | exact Nat.le_refl _⟩, ⟨by (with_reducible repeat (first | apply Kd.R_alloc | apply Kd.R_drewN | apply Kd.R_drew)); exact HO141.out⟩, ⟨bpl BK137.out⟩, ⟨bnx⟩⟩
   ·rw [if_neg c9] at H
    have c9b0 : ((l0_5.length : Int) == (wrap64 (Int.tdiv a0_1 2))) = false := beq_eq_false_iff_ne.mpr c9
    have c9b1 : ((l0_5.length : Int) != (wrap64 (Int.tdiv a0_1 2))) = true := bne_iff_ne.mpr c9
    (first | rw [c9b0] | (simp only [i64_w, i32_w]; rw [c9b0]) | skip)
    have H' := Aside0.mk H
    clear H
    obtain ⟨hcz15_0, hcz15_1, hcz15_2, hcz15_3, hcz15_4, hcz15_5, hcz15_6, hcz15_7, hfz15_0, hfz15_1, hfz15_2, hfz15_3, hfz15_4, hfz15_5, hfz15_6, hfz15_7⟩ := cf8 (W := w8) BK137.out
    go_wp2
    repeat (go_quiet (fail); try go_wp2)
    go_meet
    case rel => exact ⟨_, (true), rq, H', ⟨by first | omega | exact Nat.le_refl _⟩, ⟨by (with_reducible repeat (first | apply Kd.R_alloc | apply Kd.R_drewN | apply Kd.R_drew)); exact HO141.out⟩, ⟨bpl BK137.out⟩, ⟨bnx⟩⟩
  case rest =>
   clear HC5
   try clear c1
   try clear p2
   try clear c3
   try clear c3b0
   try clear c3b1
   try clear p6
   try clear c7
   try clear c9
   try clear c9b0
   try clear c9b1
   try clear c10
   try clear c10b0
   try clear c10b1
   try clear c10b2
   try clear hcz11_0 hcz11_1 hcz11_2 hcz11_3 hcz11_4 hcz11_5 hcz11_6 hcz11_7
   try clear hcz13_0 hcz13_1 hcz13_2 hcz13_3 hcz13_4 hcz13_5 hcz13_6 hcz13_7
   try clear hcz15_0 hcz15_1 hcz15_2 hcz15_3 hcz15_4 hcz15_5 hcz15_6 hcz15_7
   try clear hcz7_0 hcz7_1 hcz7_2 hcz7_3 hcz7_4 hcz7_5 hcz7_6 hcz7_7
   try clear hfz11_0 hfz11_1 hfz11_2 hfz11_3 hfz11_4 hfz11_5 hfz11_6 hfz11_7
   try clear hfz13_0 hfz13_1 hfz13_2 hfz13_3 hfz13_4 hfz13_5 hfz13_6 hfz13_7
   try clear hfz15_0 hfz15_1 hfz15_2 hfz15_3 hfz15_4 hfz15_5 hfz15_6 hfz15_7
   try clear hfz7_0 hfz7_1 hfz7_2 hfz7_3 hfz7_4 hfz7_5 hfz7_6 hfz7_7
   obtain ⟨kq, x47_4, rfl, HA, HJ4, HO_4, BK137, HB⟩ := hcut
   cases kq with
   | zero => exact absurd HA.out (by simp [spec_FrameFault.j0])
   | succ kj4 =>
    have H := HA.out
    clear HA
    simp only [spec_FrameFault.j0] at H
    by_cases c16 : x47_4 = true
    ·subst c16
     replace H : (some 2) = some r := by rw [if_pos rfl] at H; exact H
     obtain rfl := Option.some.inj H
     go_wp2
     repeat (go_quiet (fail); try go_wp2)
     go_ret
     exact ⟨enq, bnx⟩
    ·replace c16 := Bool.eq_false_iff.mpr c16
     subst c16
     replace H : (spec_FrameFault.l0 kj4 t139 0 a0_0 a0_1 a0_2 a0_3 a0_4 l0_5 l0_6 l0_7) = some r := by rw [if_neg (show ¬ (false = true) by decide)] at H; exact H
     have H' := Aside0.mk H
     clear H
     go_wp2
     repeat (go_quiet (fail); try go_wp2)
     go_loopg [5] kj4 (fun kq v5 w' => ∃ (x5_2 : Int), v5 = .int .i64 x5_2 ∧ Aside0 (spec_FrameFault.l0 kq t139 x5_2 a0_0 a0_1 a0_2 a0_3 a0_4 l0_5 l0_6 l0_7 = some r) ∧ Aside0 (kq ≤ kj4) ∧ Aside0 (Kd.R k93 93 w' w.heap.size (fun _ => True) v140 t139) ∧ Aside0 (w'.heap[gb137]? = some (.cells #[.int .i64 a0_0, .int .i64 a0_1, .int .i64 a0_2, .int .i64 a0_3, .int .i64 a0_4, (.slice A0_5 l0_5.length c0_5), (.slice A0_6 l0_6.length c0_6), (.slice A0_7 l0_7.length c0_7)] 36 (0, 0))) ∧ Aside0 (Below w.heap.size w w'))
     case atStart => exact ⟨(0), rq, H', ⟨Nat.le_refl _⟩, ⟨by (with_reducible repeat (first | apply Kd.R_alloc | apply Kd.R_drewN | apply Kd.R_drew)); exact HO_4.out⟩, ⟨bpl BK137.out⟩, ⟨bnx⟩⟩
     case round =>
      clear H'
      try clear c1
      try clear p2
      try clear c3
      try clear c3b0
      try clear c3b1
      try clear p6
      try clear c7
      try clear c9
      try clear c9b0
      try clear c9b1
      try clear c10
      try clear c10b0
      try clear c10b1
      try clear c10b2
      try clear c16
      try clear hcz11_0 hcz11_1 hcz11_2 hcz11_3 hcz11_4 hcz11_5 hcz11_6 hcz11_7
      try clear hcz13_0 hcz13_1 hcz13_2 hcz13_3 hcz13_4 hcz13_5 hcz13_6 hcz13_7
      try clear hcz15_0 hcz15_1 hcz15_2 hcz15_3 hcz15_4 hcz15_5 hcz15_6 hcz15_7
      try clear hcz7_0 hcz7_1 hcz7_2 hcz7_3 hcz7_4 hcz7_5 hcz7_6 hcz7_7
      try clear hfz11_0 hfz11_1 hfz11_2 hfz11_3 hfz11_4 hfz11_5 hfz11_6 hfz11_7
      try clear hfz13_0 hfz13_1 hfz13_2 hfz13_3 hfz13_4 hfz13_5 hfz13_6 hfz13_7
      try clear hfz15_0 hfz15_1 hfz15_2 hfz15_3 hfz15_4 hfz15_5 hfz15_6 hfz15_7
      try clear hfz7_0 hfz7_1 hfz7_2 hfz7_3 hfz7_4 hfz7_5 hfz7_6 hfz7_7
      try clear p2
      try clear p6
      obtain ⟨x5_2, rfl, HA, HK2, HO_4, BK137, HB⟩ := hrel
      cases gk with
      | zero => exact absurd HA.out (by simp [spec_FrameFault.l0])
      | succ k2 =>
       have H := HA.out
       clear HA
       simp only [spec_FrameFault.l0] at H
       by_cases c17 : x5_2 < (l0_5.length : Int)
       ·rw [if_pos c17] at H
        have c17b0 : decide (x5_2 < (l0_5.length : Int)) = true := decide_eq_true c17
        clear c17
        by_cases c18 : 0 ≤ x5_2
        ·rw [if_pos c18] at H
         have c18b0 : decide (0 ≤ x5_2) = true := decide_eq_true c18
         clear c18
         replace H := bnd H
         obtain ⟨t143, A19, H⟩ := H
         by_cases c20 : t143 = true
         ·subst c20
          replace H : ((spec_l14Fits.f k2 (rd l0_5 x5_2) a0_2).bind fun t145 => (if t145 = true then (spec_FrameFault.l0 k2 t139 (wrap64 (x5_2 + 1)) a0_0 a0_1 a0_2 a0_3 a0_4 l0_5 l0_6 l0_7) else (some 3))) = some r := by rw [if_pos rfl] at H; exact H
          replace H := bnd H
          obtain ⟨t145, A21, H⟩ := H
          by_cases c22 : t145 = true
          ·subst c22
           replace H : (spec_FrameFault.l0 k2 t139 (wrap64 (x5_2 + 1)) a0_0 a0_1 a0_2 a0_3 a0_4 l0_5 l0_6 l0_7) = some r := by rw [if_pos rfl] at H; exact H
           have H' := Aside0.mk H
           clear H
           obtain ⟨hcz23_0, hcz23_1, hcz23_2, hcz23_3, hcz23_4, hcz23_5, hcz23_6, hcz23_7, hfz23_0, hfz23_1, hfz23_2, hfz23_3, hfz23_4, hfz23_5, hfz23_6, hfz23_7⟩ := cf8 (W := wr) BK137.out
           have p142 : 0 ≤ (x5_2 : Int) := dta
           have q142 : x5_2 < (l0_5.length : Int) := dta
           obtain ⟨ad142, e142, hx142_0⟩ := Kd.at_int HR0_5.out x5_2 p142 q142
           cases e142
           replace hx142_0 := (HB.out.cell (World.block_lt_of_cell? w _ hx142_0)).trans hx142_0
           replace p142 := eq_true p142
           replace q142 := eq_true q142
           go_wp2
           repeat (go_quiet (first | (go_at_call 146; (with_reducible refine (spec_l10Index.calls (rd l0_5 x5_2) true _ A19.out).mono ?_); rintro e w' ⟨rfl, ⟨nd, rfl⟩⟩; (try first | exact ⟨rfl, _, World.drewN_drewN _ _ _⟩ | exact ⟨rfl, _, Eq.trans (World.drewN_drewN _ _ _) (congrArg (World.drewN _) (Nat.add_assoc _ _ _))⟩); have p144 : 0 ≤ (x5_2 : Int) := dta; have q144 : x5_2 < (l0_5.length : Int) := dta; obtain ⟨ad144, e144, hx144_0⟩ := Kd.at_int HR0_5.out x5_2 p144 q144; obtain rfl : ad142 = ad144 := (by injection e144); replace hx144_0 := (HB.out.cell (World.block_lt_of_cell? w _ hx144_0)).trans hx144_0; replace p144 := eq_true p144; replace q144 := eq_true q144) | (go_at_call 147; (with_reducible refine (spec_l14Fits.calls k2 (rd l0_5 x5_2) a0_2 true _ A21.out).mono ?_); rintro e w' ⟨rfl, ⟨nd, rfl⟩⟩; (try first | exact ⟨rfl, _, World.drewN_drewN _ _ _⟩ | exact ⟨rfl, _, Eq.trans (World.drewN_drewN _ _ _) (congrArg (World.drewN _) (Nat.add_assoc _ _ _))⟩))); try go_wp2)
           go_roundg k2
           case measure => have := HJ4.out; have := HK2.out; omega
           case rel => exact ⟨(wrap64 (x5_2 + 1)), rq, H', ⟨by have := HJ4.out; have := HK2.out; omega⟩, ⟨by (with_reducible repeat (first | apply Kd.R_alloc | apply Kd.R_drewN | apply Kd.R_drew)); exact HO_4.out⟩, ⟨bpl BK137.out⟩, ⟨bnx⟩⟩
          ·replace c22 := Bool.eq_false_iff.mpr c22
           subst c22
           replace H : (some 3) = some r := by rw [if_neg (show ¬ (false = true) by decide)] at H; exact H
           obtain rfl := Option.some.inj H
           obtain ⟨hcz24_0, hcz24_1, hcz24_2, hcz24_3, hcz24_4, hcz24_5, hcz24_6, hcz24_7, hfz24_0, hfz24_1, hfz24_2, hfz24_3, hfz24_4, hfz24_5, hfz24_6, hfz24_7⟩ := cf8 (W := wr) BK137.out
           have p142 : 0 ≤ (x5_2 : Int) := dta
           have q142 : x5_2 < (l0_5.length : Int) := dta
           obtain ⟨ad142, e142, hx142_0⟩ := Kd.at_int HR0_5.out x5_2 p142 q142
           cases e142
           replace hx142_0 := (HB.out.cell (World.block_lt_of_cell? w _ hx142_0)).trans hx142_0
           replace p142 := eq_true p142
           replace q142 := eq_true q142
           go_wp2
           repeat (go_quiet (first | (go_at_call 146; (with_reducible refine (spec_l10Index.calls (rd l0_5 x5_2) true _ A19.out).mono ?_); rintro e w' ⟨rfl, ⟨nd, rfl⟩⟩; (try first | exact ⟨rfl, _, World.drewN_drewN _ _ _⟩ | exact ⟨rfl, _, Eq.trans (World.drewN_drewN _ _ _) (congrArg (World.drewN _) (Nat.add_assoc _ _ _))⟩); have p144 : 0 ≤ (x5_2 : Int) := dta; have q144 : x5_2 < (l0_5.length : Int) := dta; obtain ⟨ad144, e144, hx144_0⟩ := Kd.at_int HR0_5.out x5_2 p144 q144; obtain rfl : ad142 = ad144 := (by injection e144); replace hx144_0 := (HB.out.cell (World.block_lt_of_cell? w _ hx144_0)).trans hx144_0; replace p144 := eq_true p144; replace q144 := eq_true q144) | (go_at_call 147; (with_reducible refine (spec_l14Fits.calls k2 (rd l0_5 x5_2) a0_2 false _ A21.out).mono ?_); rintro e w' ⟨rfl, ⟨nd, rfl⟩⟩; (try first | exact ⟨rfl, _, World.drewN_drewN _ _ _⟩ | exact ⟨rfl, _, Eq.trans (World.drewN_drewN _ _ _) (congrArg (World.drewN _) (Nat.add_assoc _ _ _))⟩))); try go_wp2)
           go_ret
           exact ⟨enq, bnx⟩
         ·replace c20 := Bool.eq_false_iff.mpr c20
          subst c20
          replace H : (some 3) = some r := by rw [if_neg (show ¬ (false = true) by decide)] at H; exact H
          obtain rfl := Option.some.inj H
          obtain ⟨hcz25_0, hcz25_1, hcz25_2, hcz25_3, hcz25_4, hcz25_5, hcz25_6, hcz25_7, hfz25_0, hfz25_1, hfz25_2, hfz25_3, hfz25_4, hfz25_5, hfz25_6, hfz25_7⟩ := cf8 (W := wr) BK137.out
          have p142 : 0 ≤ (x5_2 : Int) := dta
          have q142 : x5_2 < (l0_5.length : Int) := dta
          obtain ⟨ad142, e142, hx142_0⟩ := Kd.at_int HR0_5.out x5_2 p142 q142
          cases e142
          replace hx142_0 := (HB.out.cell (World.block_lt_of_cell? w _ hx142_0)).trans hx142_0
          replace p142 := eq_true p142
          replace q142 := eq_true q142
          go_wp2
          repeat (go_quiet (first | (go_at_call 146; (with_reducible refine (spec_l10Index.calls (rd l0_5 x5_2) false _ A19.out).mono ?_); rintro e w' ⟨rfl, ⟨nd, rfl⟩⟩; (try first | exact ⟨rfl, _, World.drewN_drewN _ _ _⟩ | exact ⟨rfl, _, Eq.trans (World.drewN_drewN _ _ _) (congrArg (World.drewN _) (Nat.add_assoc _ _ _))⟩))); try go_wp2)
          go_ret
          exact ⟨enq, bnx⟩
        ·rw [if_neg c18] at H
         exact absurd H (by simp)
       ·rw [if_neg c17] at H
        have c17b0 : decide (x5_2 < (l0_5.length : Int)) = false := decide_eq_false c17
        clear c17
        replace H := bnd H
        obtain ⟨t146, A26, H⟩ := H
        replace H := bnd H
        obtain ⟨t147, A27, H⟩ := H
        by_cases c28 : t147 = true
        ·subst c28
         replace H : (spec_FrameFault.l1 k2 t139 0 a0_0 a0_1 a0_2 a0_3 a0_4 l0_5 l0_6 l0_7) = some r := by rw [if_pos rfl] at H; exact H
         have H' := Aside0.mk H
         clear H
         obtain ⟨hcz29_0, hcz29_1, hcz29_2, hcz29_3, hcz29_4, hcz29_5, hcz29_6, hcz29_7, hfz29_0, hfz29_1, hfz29_2, hfz29_3, hfz29_4, hfz29_5, hfz29_6, hfz29_7⟩ := cf8 (W := wr) BK137.out
         go_wp2
         repeat (go_quiet (first | (go_at_call 149; (with_reducible refine (spec_l13Rung.calls a0_2 a0_3 t146 _ A26.out).mono ?_); rintro e w' ⟨rfl, ⟨nd, rfl⟩⟩; (try first | exact ⟨rfl, _, World.drewN_drewN _ _ _⟩ | exact ⟨rfl, _, Eq.trans (World.drewN_drewN _ _ _) (congrArg (World.drewN _) (Nat.add_assoc _ _ _))⟩)) | (go_at_call 148; (with_reducible refine (spec_l14Gains.calls k2 _ _ l0_6 t146 true _ ?side1 ?side2 A27.out).mono ?_); (case side1 => repeat (first | exact (Kd.C_below HR0_6.out bnx) | (with_reducible refine Kd.C_alloc ?_ _) | (with_reducible refine Kd.C_drewN ?_ _) | (with_reducible refine Kd.C_drew ?_))); (case side2 => exact HC0_6.out); rintro e w' ⟨rfl, ⟨nd, rfl⟩⟩; (try first | exact ⟨rfl, _, World.drewN_drewN _ _ _⟩ | exact ⟨rfl, _, Eq.trans (World.drewN_drewN _ _ _) (congrArg (World.drewN _) (Nat.add_assoc _ _ _))⟩))); try go_wp2)
         go_loopg [6] k2 (fun kq v6 w' => ∃ (x6_3 : Int), v6 = .int .i64 x6_3 ∧ Aside0 (spec_FrameFault.l1 kq t139 x6_3 a0_0 a0_1 a0_2 a0_3 a0_4 l0_5 l0_6 l0_7 = some r) ∧ Aside0 (kq ≤ k2) ∧ Aside0 (Kd.R k93 93 w' w.heap.size (fun _ => True) v140 t139) ∧ Aside0 (w'.heap[gb137]? = some (.cells #[.int .i64 a0_0, .int .i64 a0_1, .int .i64 a0_2, .int .i64 a0_3, .int .i64 a0_4, (.slice A0_5 l0_5.length c0_5), (.slice A0_6 l0_6.length c0_6), (.slice A0_7 l0_7.length c0_7)] 36 (0, 0))) ∧ Aside0 (Below w.heap.size w w'))
         case atStart => exact ⟨(0), rq, H', ⟨Nat.le_refl _⟩, ⟨by (with_reducible repeat (first | apply Kd.R_alloc | apply Kd.R_drewN | apply Kd.R_drew)); exact HO_4.out⟩, ⟨bpl BK137.out⟩, ⟨bnx⟩⟩
         case round =>
          clear H'
          try clear c1
          try clear p1
          try clear q1
          try clear hx1
          try clear c2
          try clear p2
          try clear c3
          try clear c3b0
          try clear c3b1
          try clear p6
          try clear c7
          try clear c9
          try clear c9b0
          try clear c9b1
          try clear c10
          try clear c10b0
          try clear c10b1
          try clear c10b2
          try clear p14
          try clear q14
          try clear hx14
          try clear c16
          try clear c17
          try clear c17b0
          try clear c18
          try clear c18b0
          try clear c20
          try clear c22
          try clear c28
          try clear hcz11_0 hcz11_1 hcz11_2 hcz11_3 hcz11_4 hcz11_5 hcz11_6 hcz11_7
          try clear hcz13_0 hcz13_1 hcz13_2 hcz13_3 hcz13_4 hcz13_5 hcz13_6 hcz13_7
          try clear hcz15_0 hcz15_1 hcz15_2 hcz15_3 hcz15_4 hcz15_5 hcz15_6 hcz15_7
          try clear hcz23_0 hcz23_1 hcz23_2 hcz23_3 hcz23_4 hcz23_5 hcz23_6 hcz23_7
          try clear hcz24_0 hcz24_1 hcz24_2 hcz24_3 hcz24_4 hcz24_5 hcz24_6 hcz24_7
          try clear hcz25_0 hcz25_1 hcz25_2 hcz25_3 hcz25_4 hcz25_5 hcz25_6 hcz25_7
          try clear hcz29_0 hcz29_1 hcz29_2 hcz29_3 hcz29_4 hcz29_5 hcz29_6 hcz29_7
          try clear hcz7_0 hcz7_1 hcz7_2 hcz7_3 hcz7_4 hcz7_5 hcz7_6 hcz7_7
          try clear hfz11_0 hfz11_1 hfz11_2 hfz11_3 hfz11_4 hfz11_5 hfz11_6 hfz11_7
          try clear hfz13_0 hfz13_1 hfz13_2 hfz13_3 hfz13_4 hfz13_5 hfz13_6 hfz13_7
          try clear hfz15_0 hfz15_1 hfz15_2 hfz15_3 hfz15_4 hfz15_5 hfz15_6 hfz15_7
          try clear hfz23_0 hfz23_1 hfz23_2 hfz23_3 hfz23_4 hfz23_5 hfz23_6 hfz23_7
          try clear hfz24_0 hfz24_1 hfz24_2 hfz24_3 hfz24_4 hfz24_5 hfz24_6 hfz24_7
          try clear hfz25_0 hfz25_1 hfz25_2 hfz25_3 hfz25_4 hfz25_5 hfz25_6 hfz25_7
          try clear hfz29_0 hfz29_1 hfz29_2 hfz29_3 hfz29_4 hfz29_5 hfz29_6 hfz29_7
          try clear hfz7_0 hfz7_1 hfz7_2 hfz7_3 hfz7_4 hfz7_5 hfz7_6 hfz7_7
          try clear hx142_0
          try clear hx144_0
          try clear p142
          try clear p144
          try clear p2
          try clear p6
          try clear q142
          try clear q144
          obtain ⟨x6_3, rfl, HA, HK3, HO_4, BK137, HB⟩ := hrel
          cases gk with
          | zero => exact absurd HA.out (by simp [spec_FrameFault.l1])
          | succ k3 =>
           have H := HA.out
           clear HA
           simp only [spec_FrameFault.l1] at H
           by_cases c30 : x6_3 < (t139.length : Int)
           ·rw [if_pos c30] at H
            have c30b0 : decide (x6_3 < (t139.length : Int)) = true := decide_eq_true c30
            clear c30
            by_cases c31 : 0 ≤ x6_3
            ·rw [if_pos c31] at H
             have c31b0 : decide (0 ≤ x6_3) = true := decide_eq_true c31
             clear c31
             by_cases c32 : x6_3 < (l0_7.length : Int)
             ·rw [if_pos c32] at H
              have c32b0 : decide (x6_3 < (l0_7.length : Int)) = true := decide_eq_true c32
              clear c32
              by_cases c33 : ((rd_L1 l0_7 x6_3).length : Int) = ((rd_T93 t139 x6_3).f1)
              ·rw [if_pos c33] at H
               have c33b0 : (((rd_L1 l0_7 x6_3).length : Int) == ((rd_T93 t139 x6_3).f1)) = true := beq_iff_eq.mpr c33
               have c33b1 : (((rd_L1 l0_7 x6_3).length : Int) != ((rd_T93 t139 x6_3).f1)) = false := bne_eq_false_iff_eq.mpr c33
               clear c33
               replace H := bnd H
               obtain ⟨t151, A34, H⟩ := H
               by_cases c35 : t151 = 0
               ·rw [if_pos c35] at H
                have c35b0 : (t151 == 0) = true := beq_iff_eq.mpr c35
                have c35b1 : (t151 != 0) = false := bne_eq_false_iff_eq.mpr c35
                clear c35
                have H' := Aside0.mk H
                clear H
                obtain ⟨Ao36, co36, eo36⟩ := Kd.R_slice HO_4.out
                subst eo36
                obtain ⟨hcz37_0, hcz37_1, hcz37_2, hcz37_3, hcz37_4, hcz37_5, hcz37_6, hcz37_7, hfz37_0, hfz37_1, hfz37_2, hfz37_3, hfz37_4, hfz37_5, hfz37_6, hfz37_7⟩ := cf8 (W := wr) BK137.out
                have p148 : 0 ≤ (x6_3 : Int) := dta
                have q148 : x6_3 < (l0_7.length : Int) := dta
                obtain ⟨ad148, A148_0, c148_0, e148, hx148_0, hl148_0, hi148_0⟩ := at_L1 HR0_7.out x6_3 p148 q148
                cases e148
                replace hx148_0 := (HB.out.cell (World.block_lt_of_cell? w _ hx148_0)).trans hx148_0
                have HR148_0 := Aside0.mk hi148_0
                have HC148_0 := Aside0.mk hl148_0
                clear hi148_0 hl148_0
                replace p148 := eq_true p148
                replace q148 := eq_true q148
                have p149 : 0 ≤ (x6_3 : Int) := dta
                have q149 : x6_3 < (t139.length : Int) := dta
                obtain ⟨ad149, e149, hx149_0, hx149_1⟩ := at_T93 (Kd.R_reads' HO_4.out).2.2 x6_3 p149 q149
                cases e149
                replace p149 := eq_true p149
                replace q149 := eq_true q149
                have p150 : 0 ≤ (x6_3 : Int) := dta
                have q150 : x6_3 < (l0_7.length : Int) := dta
                obtain ⟨ad150, A150_0, c150_0, e150, hx150_0, hl150_0, hi150_0⟩ := at_L1 HR0_7.out x6_3 p150 q150
                obtain rfl : ad148 = ad150 := (by injection e150)
                replace hx150_0 := (HB.out.cell (World.block_lt_of_cell? w _ hx150_0)).trans hx150_0
                have HR150_0 := Aside0.mk hi150_0
                have HC150_0 := Aside0.mk hl150_0
                clear hi150_0 hl150_0
                replace p150 := eq_true p150
                replace q150 := eq_true q150
                have ea_ := Option.some.inj (hx148_0.symm.trans hx150_0)
                injection ea_ with ea_ en_ ec_
                subst ea_
                subst ec_
                clear en_
                go_wp2
                repeat (go_quiet (first | (go_at_call 150; (try simp only [i64_w, i32_w]); (with_reducible refine (spec_PulsesFault.calls k3 _ _ (rd_L1 l0_7 x6_3) (wrap64 (8 - (wrap64 (2 * a0_3)))) t151 _ ?_ ?_ A34.out).mono ?_); exact cpl HR150_0.out; exact HC150_0.out; rintro e w' ⟨rfl, ⟨nd, rfl⟩⟩; (try first | exact ⟨rfl, _, World.drewN_drewN _ _ _⟩ | exact ⟨rfl, _, Eq.trans (World.drewN_drewN _ _ _) (congrArg (World.drewN _) (Nat.add_assoc _ _ _))⟩))); try go_wp2)
                go_roundg k3
                case measure => have := HJ4.out; have := HK2.out; have := HK3.out; omega
                case rel => exact ⟨(wrap64 (x6_3 + 1)), rq, H', ⟨by have := HJ4.out; have := HK2.out; have := HK3.out; omega⟩, ⟨by (with_reducible repeat (first | apply Kd.R_alloc | apply Kd.R_drewN | apply Kd.R_drew)); exact HO_4.out⟩, ⟨bpl BK137.out⟩, ⟨bnx⟩⟩
               ·rw [if_neg c35] at H
                have c35b0 : (t151 == 0) = false := beq_eq_false_iff_ne.mpr c35
                have c35b1 : (t151 != 0) = true := bne_iff_ne.mpr c35
                obtain rfl := Option.some.inj H
                obtain ⟨Ao38, co38, eo38⟩ := Kd.R_slice HO_4.out
                subst eo38
                obtain ⟨hcz39_0, hcz39_1, hcz39_2, hcz39_3, hcz39_4, hcz39_5, hcz39_6, hcz39_7, hfz39_0, hfz39_1, hfz39_2, hfz39_3, hfz39_4, hfz39_5, hfz39_6, hfz39_7⟩ := cf8 (W := wr) BK137.out
                have p148 : 0 ≤ (x6_3 : Int) := dta
                have q148 : x6_3 < (l0_7.length : Int) := dta
                obtain ⟨ad148, A148_0, c148_0, e148, hx148_0, hl148_0, hi148_0⟩ := at_L1 HR0_7.out x6_3 p148 q148
                cases e148
                replace hx148_0 := (HB.out.cell (World.block_lt_of_cell? w _ hx148_0)).trans hx148_0
                have HR148_0 := Aside0.mk hi148_0
                have HC148_0 := Aside0.mk hl148_0
                clear hi148_0 hl148_0
                replace p148 := eq_true p148
                replace q148 := eq_true q148
                have p149 : 0 ≤ (x6_3 : Int) := dta
                have q149 : x6_3 < (t139.length : Int) := dta
                obtain ⟨ad149, e149, hx149_0, hx149_1⟩ := at_T93 (Kd.R_reads' HO_4.out).2.2 x6_3 p149 q149
                cases e149
                replace p149 := eq_true p149
                replace q149 := eq_true q149
                have p150 : 0 ≤ (x6_3 : Int) := dta
                have q150 : x6_3 < (l0_7.length : Int) := dta
                obtain ⟨ad150, A150_0, c150_0, e150, hx150_0, hl150_0, hi150_0⟩ := at_L1 HR0_7.out x6_3 p150 q150
                obtain rfl : ad148 = ad150 := (by injection e150)
                replace hx150_0 := (HB.out.cell (World.block_lt_of_cell? w _ hx150_0)).trans hx150_0
                have HR150_0 := Aside0.mk hi150_0
                have HC150_0 := Aside0.mk hl150_0
                clear hi150_0 hl150_0
                replace p150 := eq_true p150
                replace q150 := eq_true q150
                have ea_ := Option.some.inj (hx148_0.symm.trans hx150_0)
                injection ea_ with ea_ en_ ec_
                subst ea_
                subst ec_
                clear en_
                go_wp2
                repeat (go_quiet (first | (go_at_call 150; (try simp only [i64_w, i32_w]); (with_reducible refine (spec_PulsesFault.calls k3 _ _ (rd_L1 l0_7 x6_3) (wrap64 (8 - (wrap64 (2 * a0_3)))) t151 _ ?_ ?_ A34.out).mono ?_); exact cpl HR150_0.out; exact HC150_0.out; rintro e w' ⟨rfl, ⟨nd, rfl⟩⟩; (try first | exact ⟨rfl, _, World.drewN_drewN _ _ _⟩ | exact ⟨rfl, _, Eq.trans (World.drewN_drewN _ _ _) (congrArg (World.drewN _) (Nat.add_assoc _ _ _))⟩))); try go_wp2)
                go_ret
                exact ⟨enq, bnx⟩
              ·rw [if_neg c33] at H
               have c33b0 : (((rd_L1 l0_7 x6_3).length : Int) == ((rd_T93 t139 x6_3).f1)) = false := beq_eq_false_iff_ne.mpr c33
               have c33b1 : (((rd_L1 l0_7 x6_3).length : Int) != ((rd_T93 t139 x6_3).f1)) = true := bne_iff_ne.mpr c33
               obtain rfl := Option.some.inj H
               obtain ⟨Ao40, co40, eo40⟩ := Kd.R_slice HO_4.out
               subst eo40
               obtain ⟨hcz41_0, hcz41_1, hcz41_2, hcz41_3, hcz41_4, hcz41_5, hcz41_6, hcz41_7, hfz41_0, hfz41_1, hfz41_2, hfz41_3, hfz41_4, hfz41_5, hfz41_6, hfz41_7⟩ := cf8 (W := wr) BK137.out
               have p148 : 0 ≤ (x6_3 : Int) := dta
               have q148 : x6_3 < (l0_7.length : Int) := dta
               obtain ⟨ad148, A148_0, c148_0, e148, hx148_0, hl148_0, hi148_0⟩ := at_L1 HR0_7.out x6_3 p148 q148
               cases e148
               replace hx148_0 := (HB.out.cell (World.block_lt_of_cell? w _ hx148_0)).trans hx148_0
               have HR148_0 := Aside0.mk hi148_0
               have HC148_0 := Aside0.mk hl148_0
               clear hi148_0 hl148_0
               replace p148 := eq_true p148
               replace q148 := eq_true q148
               have p149 : 0 ≤ (x6_3 : Int) := dta
               have q149 : x6_3 < (t139.length : Int) := dta
               obtain ⟨ad149, e149, hx149_0, hx149_1⟩ := at_T93 (Kd.R_reads' HO_4.out).2.2 x6_3 p149 q149
               cases e149
               replace p149 := eq_true p149
               replace q149 := eq_true q149
               go_wp2
               repeat (go_quiet (fail); try go_wp2)
               go_ret
               exact ⟨enq, bnx⟩
             ·rw [if_neg c32] at H
              exact absurd H (by simp)
            ·rw [if_neg c31] at H
             exact absurd H (by simp)
           ·rw [if_neg c30] at H
            have c30b0 : decide (x6_3 < (t139.length : Int)) = false := decide_eq_false c30
            clear c30
            obtain rfl := Option.some.inj H
            obtain ⟨Ao42, co42, eo42⟩ := Kd.R_slice HO_4.out
            subst eo42
            go_wp2
            repeat (go_quiet (fail); try go_wp2)
            go_ret
            exact ⟨enq, bnx⟩
        ·replace c28 := Bool.eq_false_iff.mpr c28
         subst c28
         replace H : (some 3) = some r := by rw [if_neg (show ¬ (false = true) by decide)] at H; exact H
         obtain rfl := Option.some.inj H
         obtain ⟨hcz43_0, hcz43_1, hcz43_2, hcz43_3, hcz43_4, hcz43_5, hcz43_6, hcz43_7, hfz43_0, hfz43_1, hfz43_2, hfz43_3, hfz43_4, hfz43_5, hfz43_6, hfz43_7⟩ := cf8 (W := wr) BK137.out
         go_wp2
         repeat (go_quiet (first | (go_at_call 149; (with_reducible refine (spec_l13Rung.calls a0_2 a0_3 t146 _ A26.out).mono ?_); rintro e w' ⟨rfl, ⟨nd, rfl⟩⟩; (try first | exact ⟨rfl, _, World.drewN_drewN _ _ _⟩ | exact ⟨rfl, _, Eq.trans (World.drewN_drewN _ _ _) (congrArg (World.drewN _) (Nat.add_assoc _ _ _))⟩)) | (go_at_call 148; (with_reducible refine (spec_l14Gains.calls k2 _ _ l0_6 t146 false _ ?side1 ?side2 A27.out).mono ?_); (case side1 => repeat (first | exact (Kd.C_below HR0_6.out bnx) | (with_reducible refine Kd.C_alloc ?_ _) | (with_reducible refine Kd.C_drewN ?_ _) | (with_reducible refine Kd.C_drew ?_))); (case side2 => exact HC0_6.out); rintro e w' ⟨rfl, ⟨nd, rfl⟩⟩; (try first | exact ⟨rfl, _, World.drewN_drewN _ _ _⟩ | exact ⟨rfl, _, Eq.trans (World.drewN_drewN _ _ _) (congrArg (World.drewN _) (Nat.add_assoc _ _ _))⟩))); try go_wp2)
         go_ret
         exact ⟨enq, bnx⟩
 ·rw [if_neg c3] at H
  have c3b0 : (t138 == 0) = false := beq_eq_false_iff_ne.mpr c3
  have c3b1 : (t138 != 0) = true := bne_iff_ne.mpr c3
  obtain rfl := Option.some.inj H
  go_enter Try.func73, Try.ntmps73
  go_wp2_with (first | ((with_reducible refine gate_dst (N := 1) rfl ?_); (try (refine gate_guard (by rfl) ?_; dsimp only)); refine bev 1 36 #[.int .i64 a0_0, .int .i64 a0_1, .int .i64 a0_2, .int .i64 a0_3, .int .i64 a0_4, .slice A0_5 l0_5.length c0_5, .slice A0_6 l0_6.length c0_6, .slice A0_7 l0_7.length c0_7] ?_; intro gb137 hg w44 hbox hb; have BK137 := am hbox; have GW137 := gwe hg; have GE137 := gwe hg; replace HB := hbs hb; clear hb hbox hg; obtain ⟨hcz45_0, hcz45_1, hcz45_2, hcz45_3, hcz45_4, hcz45_5, hcz45_6, hcz45_7, hfz45_0, hfz45_1, hfz45_2, hfz45_3, hfz45_4, hfz45_5, hfz45_6, hfz45_7⟩ := cf8 (W := w44) BK137.out) | (go_at_call 144; (with_reducible refine (spec_l14Head.calls a0_0 a0_1 a0_2 a0_3 a0_4 t138 _ A2.out).mono ?_); rintro e w' ⟨rfl, ⟨nd, rfl⟩⟩; (try first | exact ⟨rfl, _, World.drewN_drewN _ _ _⟩ | exact ⟨rfl, _, Eq.trans (World.drewN_drewN _ _ _) (congrArg (World.drewN _) (Nat.add_assoc _ _ _))⟩)))
  repeat (go_quiet (fail); try go_wp2_with (first | ((with_reducible refine gate_dst (N := 1) rfl ?_); (try (refine gate_guard (by rfl) ?_; dsimp only)); refine bev 1 36 #[.int .i64 a0_0, .int .i64 a0_1, .int .i64 a0_2, .int .i64 a0_3, .int .i64 a0_4, .slice A0_5 l0_5.length c0_5, .slice A0_6 l0_6.length c0_6, .slice A0_7 l0_7.length c0_7] ?_; intro gb137 hg w44 hbox hb; have BK137 := am hbox; have GW137 := gwe hg; have GE137 := gwe hg; replace HB := hbs hb; clear hb hbox hg; obtain ⟨hcz45_0, hcz45_1, hcz45_2, hcz45_3, hcz45_4, hcz45_5, hcz45_6, hcz45_7, hfz45_0, hfz45_1, hfz45_2, hfz45_3, hfz45_4, hfz45_5, hfz45_6, hfz45_7⟩ := cf8 (W := w44) BK137.out) | (go_at_call 144; (with_reducible refine (spec_l14Head.calls a0_0 a0_1 a0_2 a0_3 a0_4 t138 _ A2.out).mono ?_); rintro e w' ⟨rfl, ⟨nd, rfl⟩⟩; (try first | exact ⟨rfl, _, World.drewN_drewN _ _ _⟩ | exact ⟨rfl, _, Eq.trans (World.drewN_drewN _ _ _) (congrArg (World.drewN _) (Nat.add_assoc _ _ _))⟩))))
  go_ret
  exact ⟨enq, bnx⟩

end Go.Proofs.Ythehhncokikgcaa.PFnExactMakeFrame
