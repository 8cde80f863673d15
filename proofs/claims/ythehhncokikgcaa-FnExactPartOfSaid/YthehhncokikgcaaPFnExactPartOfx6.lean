-- Contracts of the functions that the law reaches, written by wip/xprint.py of this repo.
import Derived.Test.YthehhncokikgcaaPFnExactPartOfx0
import Derived.Test.YthehhncokikgcaaPFnExactPartOfx1
import Derived.Test.YthehhncokikgcaaPFnExactPartOfx2
import Derived.Test.YthehhncokikgcaaPFnExactPartOfx3
import Derived.Test.YthehhncokikgcaaPFnExactPartOfx5
namespace Go.Proofs.Ythehhncokikgcaa.PFnExactPartOf
open Go.RowKit Go.Proofs.YthehhncokikgcaaW.PrintWords Go.Proofs.YthehhncokikgcaaW.PrintLast Go.Proofs.YthehhncokikgcaaW.PrintMore
attribute [local go_sem] max2_int min2_int max_two min_two max_three min_three max_four min_four   -- for this text's walks alone
set_option linter.unusedVariables false
set_option linter.unusedSimpArgs false

/-! ### spec_PartFault: function 84 -/
mutual
def spec_PartFault.j0 : Nat → List (S93) → Bool → Int → Int → Int → Int → Int → Int → List Int → List Int → List (List Int) → Option (Int)
 | 0, _, _, _, _, _, _, _, _, _, _, _ => none
 | k + 1, x4, x51, x195000, x195001, x195002, x195003, x195004, x195005, x195006, x195007, x195008 => if x51 = true then (some 2) else (spec_PartFault.l0 k x4 0 x195000 x195001 x195002 x195003 x195004 x195005 x195006 x195007 x195008)
def spec_PartFault.l0 : Nat → List (S93) → Int → Int → Int → Int → Int → Int → Int → List Int → List Int → List (List Int) → Option (Int)
 | 0, _, _, _, _, _, _, _, _, _, _, _ => none
 | k + 1, x4, x5, x195000, x195001, x195002, x195003, x195004, x195005, x195006, x195007, x195008 => if x5 < (x195006.length : Int) then (if 0 ≤ x5 then ((spec_l10Index.f (rd x195006 x5)).bind fun t201 => (if t201 = true then ((spec_l14Fits.f k (wrap64 ((wrap64 (x195004 + 1)) * (rd x195006 x5))) x195002).bind fun t203 => (if t203 = true then (spec_PartFault.l0 k x4 (wrap64 (x5 + 1)) x195000 x195001 x195002 x195003 x195004 x195005 x195006 x195007 x195008) else (some 3))) else (some 3))) else (none)) else ((spec_l13Rung.f x195002 x195003).bind fun t204 => ((spec_l14Gains.f k x195007 t204).bind fun t205 => (if t205 = true then (spec_PartFault.l1 k x4 0 x195000 x195001 x195002 x195003 x195004 x195005 x195006 x195007 x195008) else (some 3))))
def spec_PartFault.l1 : Nat → List (S93) → Int → Int → Int → Int → Int → Int → Int → List Int → List Int → List (List Int) → Option (Int)
 | 0, _, _, _, _, _, _, _, _, _, _, _ => none
 | k + 1, x4, x6, x195000, x195001, x195002, x195003, x195004, x195005, x195006, x195007, x195008 => if x6 < (x4.length : Int) then ((spec_l15Mine_any.f x195000 x195005 x6).bind fun t206 => (if t206 = true then (if 0 ≤ x6 then (if x6 < (x195008.length : Int) then (if ((rd_L1 x195008 x6).length : Int) = ((rd_T93 x4 x6).f1) then ((spec_PulsesFault.f k (rd_L1 x195008 x6) (wrap64 (8 - (wrap64 (2 * x195003))))).bind fun t211 => (if t211 = 0 then (spec_PartFault.l1 k x4 (wrap64 (x6 + 1)) x195000 x195001 x195002 x195003 x195004 x195005 x195006 x195007 x195008) else (some t211))) else (some 2)) else (none)) else (none)) else (if 0 ≤ x6 then (if x6 < (x195008.length : Int) then (if ((rd_L1 x195008 x6).length : Int) > 0 then (some 1) else (spec_PartFault.l1 k x4 (wrap64 (x6 + 1)) x195000 x195001 x195002 x195003 x195004 x195005 x195006 x195007 x195008)) else (none)) else (none)))) else (some 0)
end
def spec_PartFault.f (k : Nat) (a0_0 : Int) (a0_1 : Int) (a0_2 : Int) (a0_3 : Int) (a0_4 : Int) (a0_5 : Int) (l0_6 : List Int) (l0_7 : List Int) (l0_8 : List (List Int)) : Option (Int) := (spec_l14Head.f a0_0 a0_1 a0_2 a0_3 a0_4).bind fun t195 => (if t195 = 0 then ((spec_l1In.f a0_5 0 1).bind fun t196 => (if t196 = true then ((spec_l13Bands.f a0_1).bind fun t197 => (if (l0_6.length : Int) = (wrap64 (Int.tdiv a0_1 2)) then (if (l0_7.length : Int) = (t197.length : Int) then (spec_PartFault.j0 k t197 ((l0_8.length : Int) != (t197.length : Int)) a0_0 a0_1 a0_2 a0_3 a0_4 a0_5 l0_6 l0_7 l0_8) else (spec_PartFault.j0 k t197 true a0_0 a0_1 a0_2 a0_3 a0_4 a0_5 l0_6 l0_7 l0_8)) else (spec_PartFault.j0 k t197 true a0_0 a0_1 a0_2 a0_3 a0_4 a0_5 l0_6 l0_7 l0_8))) else (some 3))) else (some t195))
theorem spec_PartFault.mono_l : ∀ k, (∀ y0 y1 y2 y3 y4 y5 y6 y7 y8 y9 y10, LeO (spec_PartFault.j0 k y0 y1 y2 y3 y4 y5 y6 y7 y8 y9 y10) (spec_PartFault.j0 (k + 1) y0 y1 y2 y3 y4 y5 y6 y7 y8 y9 y10)) ∧ (∀ y0 y1 y2 y3 y4 y5 y6 y7 y8 y9 y10, LeO (spec_PartFault.l0 k y0 y1 y2 y3 y4 y5 y6 y7 y8 y9 y10) (spec_PartFault.l0 (k + 1) y0 y1 y2 y3 y4 y5 y6 y7 y8 y9 y10)) ∧ (∀ y0 y1 y2 y3 y4 y5 y6 y7 y8 y9 y10, LeO (spec_PartFault.l1 k y0 y1 y2 y3 y4 y5 y6 y7 y8 y9 y10) (spec_PartFault.l1 (k + 1) y0 y1 y2 y3 y4 y5 y6 y7 y8 y9 y10))
 | 0 => ⟨fun _ _ _ _ _ _ _ _ _ _ _ r h => by simp [spec_PartFault.j0] at h, fun _ _ _ _ _ _ _ _ _ _ _ r h => by simp [spec_PartFault.l0] at h, fun _ _ _ _ _ _ _ _ _ _ _ r h => by simp [spec_PartFault.l1] at h⟩
 | k + 1 => by
  obtain ⟨ih0, ih1, ih2⟩ := spec_PartFault.mono_l k
  refine ⟨?_, ?_, ?_⟩
  ·intro y0 y1 y2 y3 y4 y5 y6 y7 y8 y9 y10
   unfold spec_PartFault.j0
   repeat' first
   | (with_reducible exact ih0 _ _ _ _ _ _ _ _ _ _ _)
   | (with_reducible exact ih1 _ _ _ _ _ _ _ _ _ _ _)
   | (with_reducible exact ih2 _ _ _ _ _ _ _ _ _ _ _)
   | (with_reducible exact spec_PulsesFault.mono _ _ _)
   | (with_reducible exact spec_l14Fits.mono _ _ _)
   | (with_reducible exact spec_l14Gains.mono _ _ _)
   | (with_reducible exact LeO.refl _)
   | (with_reducible exact LeO.none _)
   | (with_reducible refine LeO.ite ?_ ?_)
   | (with_reducible refine LeO.bind ?_ (fun _ => ?_))
   | exact ih0 _ _ _ _ _ _ _ _ _ _ _
   | exact ih1 _ _ _ _ _ _ _ _ _ _ _
   | exact ih2 _ _ _ _ _ _ _ _ _ _ _
   | exact spec_PulsesFault.mono _ _ _
   | exact spec_l14Fits.mono _ _ _
   | exact spec_l14Gains.mono _ _ _
   | exact LeO.none _
   | refine LeO.ite ?_ ?_
   | refine LeO.bind ?_ (fun _ => ?_)
  ·intro y0 y1 y2 y3 y4 y5 y6 y7 y8 y9 y10
   unfold spec_PartFault.l0
   repeat' first
   | (with_reducible exact ih0 _ _ _ _ _ _ _ _ _ _ _)
   | (with_reducible exact ih1 _ _ _ _ _ _ _ _ _ _ _)
   | (with_reducible exact ih2 _ _ _ _ _ _ _ _ _ _ _)
   | (with_reducible exact spec_PulsesFault.mono _ _ _)
   | (with_reducible exact spec_l14Fits.mono _ _ _)
   | (with_reducible exact spec_l14Gains.mono _ _ _)
   | (with_reducible exact LeO.refl _)
   | (with_reducible exact LeO.none _)
   | (with_reducible refine LeO.ite ?_ ?_)
   | (with_reducible refine LeO.bind ?_ (fun _ => ?_))
   | exact ih0 _ _ _ _ _ _ _ _ _ _ _
   | exact ih1 _ _ _ _ _ _ _ _ _ _ _
   | exact ih2 _ _ _ _ _ _ _ _ _ _ _
   | exact spec_PulsesFault.mono _ _ _
   | exact spec_l14Fits.mono _ _ _
   | exact spec_l14Gains.mono _ _ _
   | exact LeO.none _
   | refine LeO.ite ?_ ?_
   | refine LeO.bind ?_ (fun _ => ?_)
  ·intro y0 y1 y2 y3 y4 y5 y6 y7 y8 y9 y10
   unfold spec_PartFault.l1
   repeat' first
   | (with_reducible exact ih0 _ _ _ _ _ _ _ _ _ _ _)
   | (with_reducible exact ih1 _ _ _ _ _ _ _ _ _ _ _)
   | (with_reducible exact ih2 _ _ _ _ _ _ _ _ _ _ _)
   | (with_reducible exact spec_PulsesFault.mono _ _ _)
   | (with_reducible exact spec_l14Fits.mono _ _ _)
   | (with_reducible exact spec_l14Gains.mono _ _ _)
   | (with_reducible exact LeO.refl _)
   | (with_reducible exact LeO.none _)
   | (with_reducible refine LeO.ite ?_ ?_)
   | (with_reducible refine LeO.bind ?_ (fun _ => ?_))
   | exact ih0 _ _ _ _ _ _ _ _ _ _ _
   | exact ih1 _ _ _ _ _ _ _ _ _ _ _
   | exact ih2 _ _ _ _ _ _ _ _ _ _ _
   | exact spec_PulsesFault.mono _ _ _
   | exact spec_l14Fits.mono _ _ _
   | exact spec_l14Gains.mono _ _ _
   | exact LeO.none _
   | refine LeO.ite ?_ ?_
   | refine LeO.bind ?_ (fun _ => ?_)
theorem spec_PartFault.mono : ∀ a0 a1 a2 a3 a4 a5 a6 a7 a8 k, LeO (spec_PartFault.f k a0 a1 a2 a3 a4 a5 a6 a7 a8) (spec_PartFault.f (k + 1) a0 a1 a2 a3 a4 a5 a6 a7 a8) := by
 intro a0 a1 a2 a3 a4 a5 a6 a7 a8 k
 obtain ⟨ih0, ih1, ih2⟩ := spec_PartFault.mono_l k
 unfold spec_PartFault.f
 repeat' first
   | (with_reducible exact ih0 _ _ _ _ _ _ _ _ _ _ _)
   | (with_reducible exact ih1 _ _ _ _ _ _ _ _ _ _ _)
   | (with_reducible exact ih2 _ _ _ _ _ _ _ _ _ _ _)
   | (with_reducible exact spec_PulsesFault.mono _ _ _)
   | (with_reducible exact spec_l14Fits.mono _ _ _)
   | (with_reducible exact spec_l14Gains.mono _ _ _)
   | (with_reducible exact LeO.refl _)
   | (with_reducible exact LeO.none _)
   | (with_reducible refine LeO.ite ?_ ?_)
   | (with_reducible refine LeO.bind ?_ (fun _ => ?_))
   | exact ih0 _ _ _ _ _ _ _ _ _ _ _
   | exact ih1 _ _ _ _ _ _ _ _ _ _ _
   | exact ih2 _ _ _ _ _ _ _ _ _ _ _
   | exact spec_PulsesFault.mono _ _ _
   | exact spec_l14Fits.mono _ _ _
   | exact spec_l14Gains.mono _ _ _
   | exact LeO.none _
   | refine LeO.ite ?_ ?_
   | refine LeO.bind ?_ (fun _ => ?_)
set_option maxHeartbeats 8000000 in
set_option maxRecDepth 100000 in
theorem spec_PartFault.calls (k : Nat) (a0_0 : Int) (a0_1 : Int) (a0_2 : Int) (a0_3 : Int) (a0_4 : Int) (a0_5 : Int) (A0_6 : Option Addr) (c0_6 : Nat) (l0_6 : List Int) (A0_7 : Option Addr) (c0_7 : Nat) (l0_7 : List Int) (A0_8 : Option Addr) (c0_8 : Nat) (l0_8 : List (List Int)) (r : Int) (w : World) (hr0_6 : Kd.C (Kd.int .i64) w A0_6 l0_6.length l0_6) (hc0_6 : l0_6.length ≤ c0_6) (hr0_7 : Kd.C (Kd.int .i64) w A0_7 l0_7.length l0_7) (hc0_7 : l0_7.length ≤ c0_7) (hr0_8 : Kd.C (Kd.slice 2 (Kd.int .i64)) w A0_8 l0_8.length l0_8) (hc0_8 : l0_8.length ≤ c0_8) (h : spec_PartFault.f k a0_0 a0_1 a0_2 a0_3 a0_4 a0_5 l0_6 l0_7 l0_8 = some r) :
  Calls Try.prog 84 #[.agg #[.int .i64 a0_0, .int .i64 a0_1, .int .i64 a0_2, .int .i64 a0_3, .int .i64 a0_4, .int .i64 a0_5, .slice A0_6 l0_6.length c0_6, .slice A0_7 l0_7.length c0_7, .slice A0_8 l0_8.length c0_8]] w fun e w' => e = .returned (.int .i64 r) ∧ Below w.heap.size w w' := by
 have hu47 := Try.underlying47
 have HR0_6 := Aside0.mk hr0_6
 have HC0_6 := Aside0.mk hc0_6
 clear hr0_6 hc0_6
 have HR0_7 := Aside0.mk hr0_7
 have HC0_7 := Aside0.mk hc0_7
 clear hr0_7 hc0_7
 have HR0_8 := Aside0.mk hr0_8
 have HC0_8 := Aside0.mk hc0_8
 clear hr0_8 hc0_8
 have HB := Aside0.mk (Below.refl w.heap.size w)
 have H : ((spec_l14Head.f a0_0 a0_1 a0_2 a0_3 a0_4).bind fun t195 => (if t195 = 0 then ((spec_l1In.f a0_5 0 1).bind fun t196 => (if t196 = true then ((spec_l13Bands.f a0_1).bind fun t197 => (if (l0_6.length : Int) = (wrap64 (Int.tdiv a0_1 2)) then (if (l0_7.length : Int) = (t197.length : Int) then (spec_PartFault.j0 k t197 ((l0_8.length : Int) != (t197.length : Int)) a0_0 a0_1 a0_2 a0_3 a0_4 a0_5 l0_6 l0_7 l0_8) else (spec_PartFault.j0 k t197 true a0_0 a0_1 a0_2 a0_3 a0_4 a0_5 l0_6 l0_7 l0_8)) else (spec_PartFault.j0 k t197 true a0_0 a0_1 a0_2 a0_3 a0_4 a0_5 l0_6 l0_7 l0_8))) else (some 3))) else (some t195))) = some r := h
 clear h
 obtain ⟨t195, A2, H⟩ := bnd H
 by_cases c3 : t195 = 0
 ·rw [if_pos c3] at H
  have c3b0 : (t195 == 0) = true := beq_iff_eq.mpr c3
  have c3b1 : (t195 != 0) = false := bne_eq_false_iff_eq.mpr c3
  clear c3
  obtain ⟨t196, A4, H⟩ := bnd H
  by_cases c5 : t196 = true
  ·subst c5
   replace H : ((spec_l13Bands.f a0_1).bind fun t197 => (if (l0_6.length : Int) = (wrap64 (Int.tdiv a0_1 2)) then (if (l0_7.length : Int) = (t197.length : Int) then (spec_PartFault.j0 k t197 ((l0_8.length : Int) != (t197.length : Int)) a0_0 a0_1 a0_2 a0_3 a0_4 a0_5 l0_6 l0_7 l0_8) else (spec_PartFault.j0 k t197 true a0_0 a0_1 a0_2 a0_3 a0_4 a0_5 l0_6 l0_7 l0_8)) else (spec_PartFault.j0 k t197 true a0_0 a0_1 a0_2 a0_3 a0_4 a0_5 l0_6 l0_7 l0_8))) = some r := by rw [if_pos rfl] at H; exact H
   obtain ⟨t197, A6, H⟩ := bnd H
   have HC7 := Aside0.mk H
   clear H
   go_enter Try.func84, Try.ntmps84
   go_upto_region 7 with (first | ((with_reducible refine gate_dst (N := 1) rfl ?_); (try (refine gate_guard (by rfl) ?_; dsimp only)); refine bev 1 47 #[.int .i64 a0_0, .int .i64 a0_1, .int .i64 a0_2, .int .i64 a0_3, .int .i64 a0_4, .int .i64 a0_5, .slice A0_6 l0_6.length c0_6, .slice A0_7 l0_7.length c0_7, .slice A0_8 l0_8.length c0_8] ?_; intro gb194 hg w8 hbox hb; have BK194 := am hbox; have GW194 := gwe hg; have GE194 := gwe hg; replace HB := hbs hb; clear hb hbox hg; obtain ⟨hcz9_0, hcz9_1, hcz9_2, hcz9_3, hcz9_4, hcz9_5, hcz9_6, hcz9_7, hcz9_8, hfz9_0, hfz9_1, hfz9_2, hfz9_3, hfz9_4, hfz9_5, hfz9_6, hfz9_7, hfz9_8⟩ := cf9 (W := w8) BK194.out) | (go_at_call 144; (with_reducible refine (spec_l14Head.calls a0_0 a0_1 a0_2 a0_3 a0_4 t195 _ A2.out).mono ?_); rintro e w' ⟨rfl, ⟨nd, rfl⟩⟩; (try first | exact ⟨rfl, _, World.drewN_drewN _ _ _⟩ | exact ⟨rfl, _, Eq.trans (World.drewN_drewN _ _ _) (congrArg (World.drewN _) (Nat.add_assoc _ _ _))⟩)) | (go_at_call 96; (with_reducible refine (spec_l1In.calls a0_5 0 1 true _ A4.out).mono ?_); rintro e w' ⟨rfl, ⟨nd, rfl⟩⟩; (try first | exact ⟨rfl, _, World.drewN_drewN _ _ _⟩ | exact ⟨rfl, _, Eq.trans (World.drewN_drewN _ _ _) (congrArg (World.drewN _) (Nat.add_assoc _ _ _))⟩)) | (go_at_call 145; (with_reducible refine (spec_l13Bands.calls a0_1 t197 _ A6.out).mono ?_); rintro e w10 ⟨v198, rfl, ho0, hb⟩; have HO199 := rlw ho0; replace BK194 := bkb BK194 hb; replace HB := hbs hb; (try clear hb); (try clear ho0)))
   repeat (go_quiet (fail); go_upto_region 7 with (first | ((with_reducible refine gate_dst (N := 1) rfl ?_); (try (refine gate_guard (by rfl) ?_; dsimp only)); refine bev 1 47 #[.int .i64 a0_0, .int .i64 a0_1, .int .i64 a0_2, .int .i64 a0_3, .int .i64 a0_4, .int .i64 a0_5, .slice A0_6 l0_6.length c0_6, .slice A0_7 l0_7.length c0_7, .slice A0_8 l0_8.length c0_8] ?_; intro gb194 hg w8 hbox hb; have BK194 := am hbox; have GW194 := gwe hg; have GE194 := gwe hg; replace HB := hbs hb; clear hb hbox hg; obtain ⟨hcz9_0, hcz9_1, hcz9_2, hcz9_3, hcz9_4, hcz9_5, hcz9_6, hcz9_7, hcz9_8, hfz9_0, hfz9_1, hfz9_2, hfz9_3, hfz9_4, hfz9_5, hfz9_6, hfz9_7, hfz9_8⟩ := cf9 (W := w8) BK194.out) | (go_at_call 144; (with_reducible refine (spec_l14Head.calls a0_0 a0_1 a0_2 a0_3 a0_4 t195 _ A2.out).mono ?_); rintro e w' ⟨rfl, ⟨nd, rfl⟩⟩; (try first | exact ⟨rfl, _, World.drewN_drewN _ _ _⟩ | exact ⟨rfl, _, Eq.trans (World.drewN_drewN _ _ _) (congrArg (World.drewN _) (Nat.add_assoc _ _ _))⟩)) | (go_at_call 96; (with_reducible refine (spec_l1In.calls a0_5 0 1 true _ A4.out).mono ?_); rintro e w' ⟨rfl, ⟨nd, rfl⟩⟩; (try first | exact ⟨rfl, _, World.drewN_drewN _ _ _⟩ | exact ⟨rfl, _, Eq.trans (World.drewN_drewN _ _ _) (congrArg (World.drewN _) (Nat.add_assoc _ _ _))⟩)) | (go_at_call 145; (with_reducible refine (spec_l13Bands.calls a0_1 t197 _ A6.out).mono ?_); rintro e w10 ⟨v198, rfl, ho0, hb⟩; have HO199 := rlw ho0; replace BK194 := bkb BK194 hb; replace HB := hbs hb; (try clear hb); (try clear ho0))))
   (try simp only [Act.put, List.setIfInBounds_toArray, List.set_cons_zero, List.set_cons_succ])
   go_cut [51] (fun v51 wc => ∃ (kq : Nat) (x51_6 : Bool), v51 = .bool x51_6 ∧ Aside0 (spec_PartFault.j0 kq t197 x51_6 a0_0 a0_1 a0_2 a0_3 a0_4 a0_5 l0_6 l0_7 l0_8 = some r) ∧ Aside0 (kq ≤ k) ∧ Aside0 (Kd.R k93 93 wc w.heap.size (fun _ => True) v198 t197) ∧ Aside0 (wc.heap[gb194]? = some (.cells #[.int .i64 a0_0, .int .i64 a0_1, .int .i64 a0_2, .int .i64 a0_3, .int .i64 a0_4, .int .i64 a0_5, (.slice A0_6 l0_6.length c0_6), (.slice A0_7 l0_7.length c0_7), (.slice A0_8 l0_8.length c0_8)] 47 (0, 0))) ∧ Aside0 (Below w.heap.size w wc))
   case first =>
    have H := HC7.out
    clear HC7
    by_cases c11 : (l0_6.length : Int) = (wrap64 (Int.tdiv a0_1 2))
    ·rw [if_pos c11] at H
     have c11b0 : ((l0_6.length : Int) == (wrap64 (Int.tdiv a0_1 2))) = true := beq_iff_eq.mpr c11
     have c11b1 : ((l0_6.length : Int) != (wrap64 (Int.tdiv a0_1 2))) = false := bne_eq_false_iff_eq.mpr c11
     clear c11
     (first | rw [c11b0] | (simp only [i64_w, i32_w]; rw [c11b0]) | skip)
     by_cases c12 : (l0_7.length : Int) = (t197.length : Int)
     ·rw [if_pos c12] at H
      have c12b0 : ((l0_7.length : Int) == (t197.length : Int)) = true := beq_iff_eq.mpr c12
      have c12b1 : ((l0_7.length : Int) != (t197.length : Int)) = false := bne_eq_false_iff_eq.mpr c12
      have c12b2 : (l0_7.length == t197.length) = true := by first | simpa using c12 | (simp at c12 ⊢; omega)
      clear c12
      have H' := Aside0.mk H
      clear H
      obtain ⟨hcz13_0, hcz13_1, hcz13_2, hcz13_3, hcz13_4, hcz13_5, hcz13_6, hcz13_7, hcz13_8, hfz13_0, hfz13_1, hfz13_2, hfz13_3, hfz13_4, hfz13_5, hfz13_6, hfz13_7, hfz13_8⟩ := cf9 (W := w10) BK194.out
      obtain ⟨Ao14, co14, eo14⟩ := Kd.R_slice HO199.out
      subst eo14
      go_wp2
      repeat (go_quiet (fail); try go_wp2)
      go_meet
      case rel => exact ⟨_, (((l0_8.length : Int) != (t197.length : Int))), rq, H', ⟨by first | omega | exact Nat.le_refl _⟩, ⟨by (with_reducible repeat (first | apply Kd.R_alloc | apply Kd.R_drewN | apply Kd.R_drew)); exact HO199.out⟩, ⟨bpl BK194.out⟩, ⟨bnx⟩⟩
     ·rw [if_neg c12] at H
      have c12b0 : ((l0_7.length : Int) == (t197.length : Int)) = false := beq_eq_false_iff_ne.mpr c12
      have c12b1 : ((l0_7.length : Int) != (t197.length : Int)) = true := bne_iff_ne.mpr c12
      have c12b2 : (l0_7.length == t197.length) = false := by first | simpa using c12 | (simp at c12 ⊢; omega)
      have H' := Aside0.mk H
      clear H
      obtain ⟨hcz15_0, hcz15_1, hcz15_2, hcz15_3, hcz15_4, hcz15_5, hcz15_6, hcz15_7, hcz15_8, hfz15_0, hfz15_1, hfz15_2, hfz15_3, hfz15_4, hfz15_5, hfz15_6, hfz15_7, hfz15_8⟩ := cf9 (W := w10) BK194.out
      obtain ⟨Ao16, co16, eo16⟩ := Kd.R_slice HO199.out
      subst eo16
      go_wp2
      repeat (go_quiet (fail); try go_wp2)
      go_meet
      case rel => exact ⟨_, (true), rq, H', ⟨by first | omega | exact Nat.le_refl _⟩, ⟨by (with_reducible repeat (first | apply Kd.R_alloc | apply Kd.R_drewN | apply Kd.R_drew)); exact HO199.out⟩, ⟨bpl BK194.out⟩, ⟨bnx⟩⟩
    ·rw [if_neg c11] at H
     have c11b0 : ((l0_6.length : Int) == (wrap64 (Int.tdiv a0_1 2))) = false := beq_eq_false_iff_ne.mpr c11
     have c11b1 : ((l0_6.length : Int) != (wrap64 (Int.tdiv a0_1 2))) = true := bne_iff_ne.mpr c11
     (first | rw [c11b0] | (simp only [i64_w, i32_w]; rw [c11b0]) | skip)
     have H' := Aside0.mk H
     clear H
     obtain ⟨hcz17_0, hcz17_1, hcz17_2, hcz17_3, hcz17_4, hcz17_5, hcz17_6, hcz17_7, hcz17_8, hfz17_0, hfz17_1, hfz17_2, hfz17_3, hfz17_4, hfz17_5, hfz17_6, hfz17_7, hfz17_8⟩ := cf9 (W := w10) BK194.out
     go_wp2
     repeat (go_quiet (fail); try go_wp2)
     go_meet
     case rel => exact ⟨_, (true), rq, H', ⟨by first | omega | exact Nat.le_refl _⟩, ⟨by (with_reducible repeat (first | apply Kd.R_alloc | apply Kd.R_drewN | apply Kd.R_drew)); exact HO199.out⟩, ⟨bpl BK194.out⟩, ⟨bnx⟩⟩
   case rest =>
    clear HC7
    try clear c1
    try clear p2
    try clear c3
    try clear c3b0
    try clear c3b1
    try clear c5
    try clear p6
    try clear c8
    try clear c11
    try clear c11b0
    try clear c11b1
    try clear c12
    try clear c12b0
    try clear c12b1
    try clear c12b2
    try clear hcz13_0 hcz13_1 hcz13_2 hcz13_3 hcz13_4 hcz13_5 hcz13_6 hcz13_7 hcz13_8
    try clear hcz15_0 hcz15_1 hcz15_2 hcz15_3 hcz15_4 hcz15_5 hcz15_6 hcz15_7 hcz15_8
    try clear hcz17_0 hcz17_1 hcz17_2 hcz17_3 hcz17_4 hcz17_5 hcz17_6 hcz17_7 hcz17_8
    try clear hcz9_0 hcz9_1 hcz9_2 hcz9_3 hcz9_4 hcz9_5 hcz9_6 hcz9_7 hcz9_8
    try clear hfz13_0 hfz13_1 hfz13_2 hfz13_3 hfz13_4 hfz13_5 hfz13_6 hfz13_7 hfz13_8
    try clear hfz15_0 hfz15_1 hfz15_2 hfz15_3 hfz15_4 hfz15_5 hfz15_6 hfz15_7 hfz15_8
    try clear hfz17_0 hfz17_1 hfz17_2 hfz17_3 hfz17_4 hfz17_5 hfz17_6 hfz17_7 hfz17_8
    try clear hfz9_0 hfz9_1 hfz9_2 hfz9_3 hfz9_4 hfz9_5 hfz9_6 hfz9_7 hfz9_8
    obtain ⟨kq, x51_6, rfl, HA, HJ6, HO_4, BK194, HB⟩ := hcut
    cases kq with
    | zero => exact absurd HA.out (by simp [spec_PartFault.j0])
    | succ kj6 =>
     have H := HA.out
     clear HA
     simp only [spec_PartFault.j0] at H
     by_cases c18 : x51_6 = true
     ·subst c18
      replace H : (some 2) = some r := by rw [if_pos rfl] at H; exact H
      obtain rfl := Option.some.inj H
      go_wp2
      repeat (go_quiet (fail); try go_wp2)
      go_ret
      exact ⟨enq, bnx⟩
     ·replace c18 := Bool.eq_false_iff.mpr c18
      subst c18
      replace H : (spec_PartFault.l0 kj6 t197 0 a0_0 a0_1 a0_2 a0_3 a0_4 a0_5 l0_6 l0_7 l0_8) = some r := by rw [if_neg (show ¬ (false = true) by decide)] at H; exact H
      have H' := Aside0.mk H
      clear H
      go_wp2
      repeat (go_quiet (fail); try go_wp2)
      go_loopg [5] kj6 (fun kq v5 w' => ∃ (x5_2 : Int), v5 = .int .i64 x5_2 ∧ Aside0 (spec_PartFault.l0 kq t197 x5_2 a0_0 a0_1 a0_2 a0_3 a0_4 a0_5 l0_6 l0_7 l0_8 = some r) ∧ Aside0 (kq ≤ kj6) ∧ Aside0 (Kd.R k93 93 w' w.heap.size (fun _ => True) v198 t197) ∧ Aside0 (w'.heap[gb194]? = some (.cells #[.int .i64 a0_0, .int .i64 a0_1, .int .i64 a0_2, .int .i64 a0_3, .int .i64 a0_4, .int .i64 a0_5, (.slice A0_6 l0_6.length c0_6), (.slice A0_7 l0_7.length c0_7), (.slice A0_8 l0_8.length c0_8)] 47 (0, 0))) ∧ Aside0 (Below w.heap.size w w'))
      case atStart => exact ⟨(0), rq, H', ⟨Nat.le_refl _⟩, ⟨by (with_reducible repeat (first | apply Kd.R_alloc | apply Kd.R_drewN | apply Kd.R_drew)); exact HO_4.out⟩, ⟨bpl BK194.out⟩, ⟨bnx⟩⟩
      case round =>
       clear H'
       try clear c1
       try clear p2
       try clear c3
       try clear c3b0
       try clear c3b1
       try clear c5
       try clear p6
       try clear c8
       try clear c11
       try clear c11b0
       try clear c11b1
       try clear c12
       try clear c12b0
       try clear c12b1
       try clear c12b2
       try clear c18
       try clear hcz13_0 hcz13_1 hcz13_2 hcz13_3 hcz13_4 hcz13_5 hcz13_6 hcz13_7 hcz13_8
       try clear hcz15_0 hcz15_1 hcz15_2 hcz15_3 hcz15_4 hcz15_5 hcz15_6 hcz15_7 hcz15_8
       try clear hcz17_0 hcz17_1 hcz17_2 hcz17_3 hcz17_4 hcz17_5 hcz17_6 hcz17_7 hcz17_8
       try clear hcz9_0 hcz9_1 hcz9_2 hcz9_3 hcz9_4 hcz9_5 hcz9_6 hcz9_7 hcz9_8
       try clear hfz13_0 hfz13_1 hfz13_2 hfz13_3 hfz13_4 hfz13_5 hfz13_6 hfz13_7 hfz13_8
       try clear hfz15_0 hfz15_1 hfz15_2 hfz15_3 hfz15_4 hfz15_5 hfz15_6 hfz15_7 hfz15_8
       try clear hfz17_0 hfz17_1 hfz17_2 hfz17_3 hfz17_4 hfz17_5 hfz17_6 hfz17_7 hfz17_8
       try clear hfz9_0 hfz9_1 hfz9_2 hfz9_3 hfz9_4 hfz9_5 hfz9_6 hfz9_7 hfz9_8
       try clear p2
       try clear p6
       obtain ⟨x5_2, rfl, HA, HK2, HO_4, BK194, HB⟩ := hrel
       cases gk with
       | zero => exact absurd HA.out (by simp [spec_PartFault.l0])
       | succ k2 =>
        have H := HA.out
        clear HA
        simp only [spec_PartFault.l0] at H
        by_cases c19 : x5_2 < (l0_6.length : Int)
        ·rw [if_pos c19] at H
         have c19b0 : decide (x5_2 < (l0_6.length : Int)) = true := decide_eq_true c19
         clear c19
         by_cases c20 : 0 ≤ x5_2
         ·rw [if_pos c20] at H
          have c20b0 : decide (0 ≤ x5_2) = true := decide_eq_true c20
          clear c20
          obtain ⟨t201, A21, H⟩ := bnd H
          by_cases c22 : t201 = true
          ·subst c22
           replace H : ((spec_l14Fits.f k2 (wrap64 ((wrap64 (a0_4 + 1)) * (rd l0_6 x5_2))) a0_2).bind fun t203 => (if t203 = true then (spec_PartFault.l0 k2 t197 (wrap64 (x5_2 + 1)) a0_0 a0_1 a0_2 a0_3 a0_4 a0_5 l0_6 l0_7 l0_8) else (some 3))) = some r := by rw [if_pos rfl] at H; exact H
           obtain ⟨t203, A23, H⟩ := bnd H
           by_cases c24 : t203 = true
           ·subst c24
            replace H : (spec_PartFault.l0 k2 t197 (wrap64 (x5_2 + 1)) a0_0 a0_1 a0_2 a0_3 a0_4 a0_5 l0_6 l0_7 l0_8) = some r := by rw [if_pos rfl] at H; exact H
            have H' := Aside0.mk H
            clear H
            obtain ⟨hcz25_0, hcz25_1, hcz25_2, hcz25_3, hcz25_4, hcz25_5, hcz25_6, hcz25_7, hcz25_8, hfz25_0, hfz25_1, hfz25_2, hfz25_3, hfz25_4, hfz25_5, hfz25_6, hfz25_7, hfz25_8⟩ := cf9 (W := wr) BK194.out
            have p200 : 0 ≤ (x5_2 : Int) := dta
            have q200 : x5_2 < (l0_6.length : Int) := dta
            obtain ⟨ad200, e200, hx200_0⟩ := Kd.at_int HR0_6.out x5_2 p200 q200
            cases e200
            replace hx200_0 := (HB.out.cell (World.block_lt_of_cell? w _ hx200_0)).trans hx200_0
            replace p200 := eq_true p200
            replace q200 := eq_true q200
            go_wp2
            repeat (go_quiet (first | (go_at_call 146; (try simp only [i64_w, i32_w]); (with_reducible refine (spec_l10Index.calls (rd l0_6 x5_2) true _ A21.out).mono ?_); rintro e w' ⟨rfl, ⟨nd, rfl⟩⟩; (try first | exact ⟨rfl, _, World.drewN_drewN _ _ _⟩ | exact ⟨rfl, _, Eq.trans (World.drewN_drewN _ _ _) (congrArg (World.drewN _) (Nat.add_assoc _ _ _))⟩); have p202 : 0 ≤ (x5_2 : Int) := dta; have q202 : x5_2 < (l0_6.length : Int) := dta; obtain ⟨ad202, e202, hx202_0⟩ := Kd.at_int HR0_6.out x5_2 p202 q202; obtain rfl : ad200 = ad202 := (by injection e202); replace hx202_0 := (HB.out.cell (World.block_lt_of_cell? w _ hx202_0)).trans hx202_0; replace p202 := eq_true p202; replace q202 := eq_true q202) | (go_at_call 147; (try simp only [i64_w, i32_w]); (with_reducible refine (spec_l14Fits.calls k2 (wrap64 ((wrap64 (a0_4 + 1)) * (rd l0_6 x5_2))) a0_2 true _ A23.out).mono ?_); rintro e w' ⟨rfl, ⟨nd, rfl⟩⟩; (try first | exact ⟨rfl, _, World.drewN_drewN _ _ _⟩ | exact ⟨rfl, _, Eq.trans (World.drewN_drewN _ _ _) (congrArg (World.drewN _) (Nat.add_assoc _ _ _))⟩))); try go_wp2)
            go_roundg k2
            case measure => have := HJ6.out; have := HK2.out; omega
            case rel => exact ⟨(wrap64 (x5_2 + 1)), rq, H', ⟨by have := HJ6.out; have := HK2.out; omega⟩, ⟨by (with_reducible repeat (first | apply Kd.R_alloc | apply Kd.R_drewN | apply Kd.R_drew)); exact HO_4.out⟩, ⟨bpl BK194.out⟩, ⟨bnx⟩⟩
           ·replace c24 := Bool.eq_false_iff.mpr c24
            subst c24
            replace H : (some 3) = some r := by rw [if_neg (show ¬ (false = true) by decide)] at H; exact H
            obtain rfl := Option.some.inj H
            obtain ⟨hcz26_0, hcz26_1, hcz26_2, hcz26_3, hcz26_4, hcz26_5, hcz26_6, hcz26_7, hcz26_8, hfz26_0, hfz26_1, hfz26_2, hfz26_3, hfz26_4, hfz26_5, hfz26_6, hfz26_7, hfz26_8⟩ := cf9 (W := wr) BK194.out
            have p200 : 0 ≤ (x5_2 : Int) := dta
            have q200 : x5_2 < (l0_6.length : Int) := dta
            obtain ⟨ad200, e200, hx200_0⟩ := Kd.at_int HR0_6.out x5_2 p200 q200
            cases e200
            replace hx200_0 := (HB.out.cell (World.block_lt_of_cell? w _ hx200_0)).trans hx200_0
            replace p200 := eq_true p200
            replace q200 := eq_true q200
            go_wp2
            repeat (go_quiet (first | (go_at_call 146; (try simp only [i64_w, i32_w]); (with_reducible refine (spec_l10Index.calls (rd l0_6 x5_2) true _ A21.out).mono ?_); rintro e w' ⟨rfl, ⟨nd, rfl⟩⟩; (try first | exact ⟨rfl, _, World.drewN_drewN _ _ _⟩ | exact ⟨rfl, _, Eq.trans (World.drewN_drewN _ _ _) (congrArg (World.drewN _) (Nat.add_assoc _ _ _))⟩); have p202 : 0 ≤ (x5_2 : Int) := dta; have q202 : x5_2 < (l0_6.length : Int) := dta; obtain ⟨ad202, e202, hx202_0⟩ := Kd.at_int HR0_6.out x5_2 p202 q202; obtain rfl : ad200 = ad202 := (by injection e202); replace hx202_0 := (HB.out.cell (World.block_lt_of_cell? w _ hx202_0)).trans hx202_0; replace p202 := eq_true p202; replace q202 := eq_true q202) | (go_at_call 147; (try simp only [i64_w, i32_w]); (with_reducible refine (spec_l14Fits.calls k2 (wrap64 ((wrap64 (a0_4 + 1)) * (rd l0_6 x5_2))) a0_2 false _ A23.out).mono ?_); rintro e w' ⟨rfl, ⟨nd, rfl⟩⟩; (try first | exact ⟨rfl, _, World.drewN_drewN _ _ _⟩ | exact ⟨rfl, _, Eq.trans (World.drewN_drewN _ _ _) (congrArg (World.drewN _) (Nat.add_assoc _ _ _))⟩))); try go_wp2)
            go_ret
            exact ⟨enq, bnx⟩
          ·replace c22 := Bool.eq_false_iff.mpr c22
           subst c22
           replace H : (some 3) = some r := by rw [if_neg (show ¬ (false = true) by decide)] at H; exact H
           obtain rfl := Option.some.inj H
           obtain ⟨hcz27_0, hcz27_1, hcz27_2, hcz27_3, hcz27_4, hcz27_5, hcz27_6, hcz27_7, hcz27_8, hfz27_0, hfz27_1, hfz27_2, hfz27_3, hfz27_4, hfz27_5, hfz27_6, hfz27_7, hfz27_8⟩ := cf9 (W := wr) BK194.out
           have p200 : 0 ≤ (x5_2 : Int) := dta
           have q200 : x5_2 < (l0_6.length : Int) := dta
           obtain ⟨ad200, e200, hx200_0⟩ := Kd.at_int HR0_6.out x5_2 p200 q200
           cases e200
           replace hx200_0 := (HB.out.cell (World.block_lt_of_cell? w _ hx200_0)).trans hx200_0
           replace p200 := eq_true p200
           replace q200 := eq_true q200
           go_wp2
           repeat (go_quiet (first | (go_at_call 146; (with_reducible refine (spec_l10Index.calls (rd l0_6 x5_2) false _ A21.out).mono ?_); rintro e w' ⟨rfl, ⟨nd, rfl⟩⟩; (try first | exact ⟨rfl, _, World.drewN_drewN _ _ _⟩ | exact ⟨rfl, _, Eq.trans (World.drewN_drewN _ _ _) (congrArg (World.drewN _) (Nat.add_assoc _ _ _))⟩))); try go_wp2)
           go_ret
           exact ⟨enq, bnx⟩
         ·rw [if_neg c20] at H
          exact absurd H (by simp)
        ·rw [if_neg c19] at H
         have c19b0 : decide (x5_2 < (l0_6.length : Int)) = false := decide_eq_false c19
         clear c19
         obtain ⟨t204, A28, H⟩ := bnd H
         obtain ⟨t205, A29, H⟩ := bnd H
         by_cases c30 : t205 = true
         ·subst c30
          replace H : (spec_PartFault.l1 k2 t197 0 a0_0 a0_1 a0_2 a0_3 a0_4 a0_5 l0_6 l0_7 l0_8) = some r := by rw [if_pos rfl] at H; exact H
          have H' := Aside0.mk H
          clear H
          obtain ⟨hcz31_0, hcz31_1, hcz31_2, hcz31_3, hcz31_4, hcz31_5, hcz31_6, hcz31_7, hcz31_8, hfz31_0, hfz31_1, hfz31_2, hfz31_3, hfz31_4, hfz31_5, hfz31_6, hfz31_7, hfz31_8⟩ := cf9 (W := wr) BK194.out
          go_wp2
          repeat (go_quiet (first | (go_at_call 149; (with_reducible refine (spec_l13Rung.calls a0_2 a0_3 t204 _ A28.out).mono ?_); rintro e w' ⟨rfl, ⟨nd, rfl⟩⟩; (try first | exact ⟨rfl, _, World.drewN_drewN _ _ _⟩ | exact ⟨rfl, _, Eq.trans (World.drewN_drewN _ _ _) (congrArg (World.drewN _) (Nat.add_assoc _ _ _))⟩)) | (go_at_call 148; (with_reducible refine (spec_l14Gains.calls k2 _ _ l0_7 t204 true _ ?side1 ?side2 A29.out).mono ?_); (case side1 => repeat (first | exact (Kd.C_below HR0_7.out bnx) | (with_reducible refine Kd.C_alloc ?_ _) | (with_reducible refine Kd.C_drewN ?_ _) | (with_reducible refine Kd.C_drew ?_))); (case side2 => exact HC0_7.out); rintro e w' ⟨rfl, ⟨nd, rfl⟩⟩; (try first | exact ⟨rfl, _, World.drewN_drewN _ _ _⟩ | exact ⟨rfl, _, Eq.trans (World.drewN_drewN _ _ _) (congrArg (World.drewN _) (Nat.add_assoc _ _ _))⟩))); try go_wp2)
          go_loopg [6] k2 (fun kq v6 w' => ∃ (x6_3 : Int), v6 = .int .i64 x6_3 ∧ Aside0 (spec_PartFault.l1 kq t197 x6_3 a0_0 a0_1 a0_2 a0_3 a0_4 a0_5 l0_6 l0_7 l0_8 = some r) ∧ Aside0 (kq ≤ k2) ∧ Aside0 (Kd.R k93 93 w' w.heap.size (fun _ => True) v198 t197) ∧ Aside0 (w'.heap[gb194]? = some (.cells #[.int .i64 a0_0, .int .i64 a0_1, .int .i64 a0_2, .int .i64 a0_3, .int .i64 a0_4, .int .i64 a0_5, (.slice A0_6 l0_6.length c0_6), (.slice A0_7 l0_7.length c0_7), (.slice A0_8 l0_8.length c0_8)] 47 (0, 0))) ∧ Aside0 (Below w.heap.size w w'))
          case atStart => exact ⟨(0), rq, H', ⟨Nat.le_refl _⟩, ⟨by (with_reducible repeat (first | apply Kd.R_alloc | apply Kd.R_drewN | apply Kd.R_drew)); exact HO_4.out⟩, ⟨bpl BK194.out⟩, ⟨bnx⟩⟩
          case round =>
           clear H'
           try clear c1
           try clear c2
           try clear p2
           try clear q2
           try clear hx2
           try clear c3
           try clear c3b0
           try clear c3b1
           try clear c5
           try clear p6
           try clear c8
           try clear c11
           try clear c11b0
           try clear c11b1
           try clear c12
           try clear c12b0
           try clear c12b1
           try clear c12b2
           try clear c18
           try clear c19
           try clear c19b0
           try clear c20
           try clear c20b0
           try clear p20
           try clear q20
           try clear hx20
           try clear c22
           try clear c24
           try clear c30
           try clear hcz13_0 hcz13_1 hcz13_2 hcz13_3 hcz13_4 hcz13_5 hcz13_6 hcz13_7 hcz13_8
           try clear hcz15_0 hcz15_1 hcz15_2 hcz15_3 hcz15_4 hcz15_5 hcz15_6 hcz15_7 hcz15_8
           try clear hcz17_0 hcz17_1 hcz17_2 hcz17_3 hcz17_4 hcz17_5 hcz17_6 hcz17_7 hcz17_8
           try clear hcz25_0 hcz25_1 hcz25_2 hcz25_3 hcz25_4 hcz25_5 hcz25_6 hcz25_7 hcz25_8
           try clear hcz26_0 hcz26_1 hcz26_2 hcz26_3 hcz26_4 hcz26_5 hcz26_6 hcz26_7 hcz26_8
           try clear hcz27_0 hcz27_1 hcz27_2 hcz27_3 hcz27_4 hcz27_5 hcz27_6 hcz27_7 hcz27_8
           try clear hcz31_0 hcz31_1 hcz31_2 hcz31_3 hcz31_4 hcz31_5 hcz31_6 hcz31_7 hcz31_8
           try clear hcz9_0 hcz9_1 hcz9_2 hcz9_3 hcz9_4 hcz9_5 hcz9_6 hcz9_7 hcz9_8
           try clear hfz13_0 hfz13_1 hfz13_2 hfz13_3 hfz13_4 hfz13_5 hfz13_6 hfz13_7 hfz13_8
           try clear hfz15_0 hfz15_1 hfz15_2 hfz15_3 hfz15_4 hfz15_5 hfz15_6 hfz15_7 hfz15_8
           try clear hfz17_0 hfz17_1 hfz17_2 hfz17_3 hfz17_4 hfz17_5 hfz17_6 hfz17_7 hfz17_8
           try clear hfz25_0 hfz25_1 hfz25_2 hfz25_3 hfz25_4 hfz25_5 hfz25_6 hfz25_7 hfz25_8
           try clear hfz26_0 hfz26_1 hfz26_2 hfz26_3 hfz26_4 hfz26_5 hfz26_6 hfz26_7 hfz26_8
           try clear hfz27_0 hfz27_1 hfz27_2 hfz27_3 hfz27_4 hfz27_5 hfz27_6 hfz27_7 hfz27_8
           try clear hfz31_0 hfz31_1 hfz31_2 hfz31_3 hfz31_4 hfz31_5 hfz31_6 hfz31_7 hfz31_8
           try clear hfz9_0 hfz9_1 hfz9_2 hfz9_3 hfz9_4 hfz9_5 hfz9_6 hfz9_7 hfz9_8
           try clear hx200_0
           try clear hx202_0
           try clear p2
           try clear p200
           try clear p202
           try clear p6
           try clear q200
           try clear q202
           obtain ⟨x6_3, rfl, HA, HK3, HO_4, BK194, HB⟩ := hrel
           cases gk with
           | zero => exact absurd HA.out (by simp [spec_PartFault.l1])
           | succ k3 =>
            have H := HA.out
            clear HA
            simp only [spec_PartFault.l1] at H
            by_cases c32 : x6_3 < (t197.length : Int)
            ·rw [if_pos c32] at H
             have c32b0 : decide (x6_3 < (t197.length : Int)) = true := decide_eq_true c32
             clear c32
             obtain ⟨t206, A33, H⟩ := bnd H
             by_cases c34 : t206 = true
             ·subst c34
              replace H : (if 0 ≤ x6_3 then (if x6_3 < (l0_8.length : Int) then (if ((rd_L1 l0_8 x6_3).length : Int) = ((rd_T93 t197 x6_3).f1) then ((spec_PulsesFault.f k3 (rd_L1 l0_8 x6_3) (wrap64 (8 - (wrap64 (2 * a0_3))))).bind fun t211 => (if t211 = 0 then (spec_PartFault.l1 k3 t197 (wrap64 (x6_3 + 1)) a0_0 a0_1 a0_2 a0_3 a0_4 a0_5 l0_6 l0_7 l0_8) else (some t211))) else (some 2)) else (none)) else (none)) = some r := by rw [if_pos rfl] at H; exact H
              by_cases c35 : 0 ≤ x6_3
              ·rw [if_pos c35] at H
               have c35b0 : decide (0 ≤ x6_3) = true := decide_eq_true c35
               clear c35
               by_cases c36 : x6_3 < (l0_8.length : Int)
               ·rw [if_pos c36] at H
                have c36b0 : decide (x6_3 < (l0_8.length : Int)) = true := decide_eq_true c36
                clear c36
                by_cases c37 : ((rd_L1 l0_8 x6_3).length : Int) = ((rd_T93 t197 x6_3).f1)
                ·rw [if_pos c37] at H
                 have c37b0 : (((rd_L1 l0_8 x6_3).length : Int) == ((rd_T93 t197 x6_3).f1)) = true := beq_iff_eq.mpr c37
                 have c37b1 : (((rd_L1 l0_8 x6_3).length : Int) != ((rd_T93 t197 x6_3).f1)) = false := bne_eq_false_iff_eq.mpr c37
                 clear c37
                 obtain ⟨t211, A38, H⟩ := bnd H
                 by_cases c39 : t211 = 0
                 ·rw [if_pos c39] at H
                  have c39b0 : (t211 == 0) = true := beq_iff_eq.mpr c39
                  have c39b1 : (t211 != 0) = false := bne_eq_false_iff_eq.mpr c39
                  clear c39
                  have H' := Aside0.mk H
                  clear H
                  obtain ⟨Ao40, co40, eo40⟩ := Kd.R_slice HO_4.out
                  subst eo40
                  go_wp2_with (first | (go_at_call 162; (with_reducible refine (spec_l15Mine_any.calls (hbx := ?_) a0_0 a0_5 x6_3 true _ A33.out).mono ?_); exact Aside0.mk ⟨47, #[.int .i64 a0_0, .int .i64 a0_1, .int .i64 a0_2, .int .i64 a0_3, .int .i64 a0_4, .int .i64 a0_5, .slice A0_6 l0_6.length c0_6, .slice A0_7 l0_7.length c0_7, .slice A0_8 l0_8.length c0_8], (bpl BK194.out), (by first | rfl | exact ⟨rfl, rfl⟩)⟩; rintro e w41 ⟨rfl, hb⟩; replace HO_4 := rbl HO_4 hb; replace BK194 := bkb BK194 hb; replace HB := hbs hb; (try clear hb); obtain ⟨hcz42_0, hcz42_1, hcz42_2, hcz42_3, hcz42_4, hcz42_5, hcz42_6, hcz42_7, hcz42_8, hfz42_0, hfz42_1, hfz42_2, hfz42_3, hfz42_4, hfz42_5, hfz42_6, hfz42_7, hfz42_8⟩ := cf9 (W := w41) BK194.out; have p208 : 0 ≤ (x6_3 : Int) := dta; have q208 : x6_3 < (l0_8.length : Int) := dta; obtain ⟨ad208, A208_0, c208_0, e208, hx208_0, hl208_0, hi208_0⟩ := at_L1 HR0_8.out x6_3 p208 q208; cases e208; replace hx208_0 := (HB.out.cell (World.block_lt_of_cell? w _ hx208_0)).trans hx208_0; have HR208_0 := Aside0.mk hi208_0; have HC208_0 := Aside0.mk hl208_0; clear hi208_0 hl208_0; replace p208 := eq_true p208; replace q208 := eq_true q208; have p209 : 0 ≤ (x6_3 : Int) := dta; have q209 : x6_3 < (t197.length : Int) := dta; obtain ⟨ad209, e209, hx209_0, hx209_1⟩ := at_T93 (Kd.R_reads' HO_4.out).2.2 x6_3 p209 q209; cases e209; replace p209 := eq_true p209; replace q209 := eq_true q209; have p210 : 0 ≤ (x6_3 : Int) := dta; have q210 : x6_3 < (l0_8.length : Int) := dta; obtain ⟨ad210, A210_0, c210_0, e210, hx210_0, hl210_0, hi210_0⟩ := at_L1 HR0_8.out x6_3 p210 q210; obtain rfl : ad208 = ad210 := (by injection e210); replace hx210_0 := (HB.out.cell (World.block_lt_of_cell? w _ hx210_0)).trans hx210_0; have HR210_0 := Aside0.mk hi210_0; have HC210_0 := Aside0.mk hl210_0; clear hi210_0 hl210_0; replace p210 := eq_true p210; replace q210 := eq_true q210; have ea_ := Option.some.inj (hx208_0.symm.trans hx210_0); injection ea_ with ea_ en_ ec_; subst ea_; subst ec_; clear en_))
                  repeat (go_quiet (first | (go_at_call 150; (try simp only [i64_w, i32_w]); (with_reducible refine (spec_PulsesFault.calls k3 _ _ (rd_L1 l0_8 x6_3) (wrap64 (8 - (wrap64 (2 * a0_3)))) t211 _ ?_ ?_ A38.out).mono ?_); exact cpl HR210_0.out; exact HC210_0.out; rintro e w' ⟨rfl, ⟨nd, rfl⟩⟩; (try first | exact ⟨rfl, _, World.drewN_drewN _ _ _⟩ | exact ⟨rfl, _, Eq.trans (World.drewN_drewN _ _ _) (congrArg (World.drewN _) (Nat.add_assoc _ _ _))⟩))); try go_wp2_with (first | (go_at_call 162; (try simp only [i64_w, i32_w]); (with_reducible refine (spec_l15Mine_any.calls (hbx := ?_) a0_0 a0_5 x6_3 true _ A33.out).mono ?_); exact Aside0.mk ⟨47, #[.int .i64 a0_0, .int .i64 a0_1, .int .i64 a0_2, .int .i64 a0_3, .int .i64 a0_4, .int .i64 a0_5, .slice A0_6 l0_6.length c0_6, .slice A0_7 l0_7.length c0_7, .slice A0_8 l0_8.length c0_8], (bpl BK194.out), (by first | rfl | exact ⟨rfl, rfl⟩)⟩; rintro e w41 ⟨rfl, hb⟩; replace HO_4 := rbl HO_4 hb; replace BK194 := bkb BK194 hb; replace HB := hbs hb; (try clear hb); obtain ⟨hcz42_0, hcz42_1, hcz42_2, hcz42_3, hcz42_4, hcz42_5, hcz42_6, hcz42_7, hcz42_8, hfz42_0, hfz42_1, hfz42_2, hfz42_3, hfz42_4, hfz42_5, hfz42_6, hfz42_7, hfz42_8⟩ := cf9 (W := w41) BK194.out; have p208 : 0 ≤ (x6_3 : Int) := dta; have q208 : x6_3 < (l0_8.length : Int) := dta; obtain ⟨ad208, A208_0, c208_0, e208, hx208_0, hl208_0, hi208_0⟩ := at_L1 HR0_8.out x6_3 p208 q208; cases e208; replace hx208_0 := (HB.out.cell (World.block_lt_of_cell? w _ hx208_0)).trans hx208_0; have HR208_0 := Aside0.mk hi208_0; have HC208_0 := Aside0.mk hl208_0; clear hi208_0 hl208_0; replace p208 := eq_true p208; replace q208 := eq_true q208; have p209 : 0 ≤ (x6_3 : Int) := dta; have q209 : x6_3 < (t197.length : Int) := dta; obtain ⟨ad209, e209, hx209_0, hx209_1⟩ := at_T93 (Kd.R_reads' HO_4.out).2.2 x6_3 p209 q209; cases e209; replace p209 := eq_true p209; replace q209 := eq_true q209; have p210 : 0 ≤ (x6_3 : Int) := dta; have q210 : x6_3 < (l0_8.length : Int) := dta; obtain ⟨ad210, A210_0, c210_0, e210, hx210_0, hl210_0, hi210_0⟩ := at_L1 HR0_8.out x6_3 p210 q210; obtain rfl : ad208 = ad210 := (by injection e210); replace hx210_0 := (HB.out.cell (World.block_lt_of_cell? w _ hx210_0)).trans hx210_0; have HR210_0 := Aside0.mk hi210_0; have HC210_0 := Aside0.mk hl210_0; clear hi210_0 hl210_0; replace p210 := eq_true p210; replace q210 := eq_true q210; have ea_ := Option.some.inj (hx208_0.symm.trans hx210_0); injection ea_ with ea_ en_ ec_; subst ea_; subst ec_; clear en_)))
                  go_roundg k3
                  case measure => have := HJ6.out; have := HK2.out; have := HK3.out; omega
                  case rel => exact ⟨(wrap64 (x6_3 + 1)), rq, H', ⟨by have := HJ6.out; have := HK2.out; have := HK3.out; omega⟩, ⟨by (with_reducible repeat (first | apply Kd.R_alloc | apply Kd.R_drewN | apply Kd.R_drew)); exact HO_4.out⟩, ⟨bpl BK194.out⟩, ⟨bnx⟩⟩
                 ·rw [if_neg c39] at H
                  have c39b0 : (t211 == 0) = false := beq_eq_false_iff_ne.mpr c39
                  have c39b1 : (t211 != 0) = true := bne_iff_ne.mpr c39
                  obtain rfl := Option.some.inj H
                  obtain ⟨Ao43, co43, eo43⟩ := Kd.R_slice HO_4.out
                  subst eo43
                  go_wp2_with (first | (go_at_call 162; (with_reducible refine (spec_l15Mine_any.calls (hbx := ?_) a0_0 a0_5 x6_3 true _ A33.out).mono ?_); exact Aside0.mk ⟨47, #[.int .i64 a0_0, .int .i64 a0_1, .int .i64 a0_2, .int .i64 a0_3, .int .i64 a0_4, .int .i64 a0_5, .slice A0_6 l0_6.length c0_6, .slice A0_7 l0_7.length c0_7, .slice A0_8 l0_8.length c0_8], (bpl BK194.out), (by first | rfl | exact ⟨rfl, rfl⟩)⟩; rintro e w44 ⟨rfl, hb⟩; replace HO_4 := rbl HO_4 hb; replace BK194 := bkb BK194 hb; replace HB := hbs hb; (try clear hb); obtain ⟨hcz45_0, hcz45_1, hcz45_2, hcz45_3, hcz45_4, hcz45_5, hcz45_6, hcz45_7, hcz45_8, hfz45_0, hfz45_1, hfz45_2, hfz45_3, hfz45_4, hfz45_5, hfz45_6, hfz45_7, hfz45_8⟩ := cf9 (W := w44) BK194.out; have p208 : 0 ≤ (x6_3 : Int) := dta; have q208 : x6_3 < (l0_8.length : Int) := dta; obtain ⟨ad208, A208_0, c208_0, e208, hx208_0, hl208_0, hi208_0⟩ := at_L1 HR0_8.out x6_3 p208 q208; cases e208; replace hx208_0 := (HB.out.cell (World.block_lt_of_cell? w _ hx208_0)).trans hx208_0; have HR208_0 := Aside0.mk hi208_0; have HC208_0 := Aside0.mk hl208_0; clear hi208_0 hl208_0; replace p208 := eq_true p208; replace q208 := eq_true q208; have p209 : 0 ≤ (x6_3 : Int) := dta; have q209 : x6_3 < (t197.length : Int) := dta; obtain ⟨ad209, e209, hx209_0, hx209_1⟩ := at_T93 (Kd.R_reads' HO_4.out).2.2 x6_3 p209 q209; cases e209; replace p209 := eq_true p209; replace q209 := eq_true q209; have p210 : 0 ≤ (x6_3 : Int) := dta; have q210 : x6_3 < (l0_8.length : Int) := dta; obtain ⟨ad210, A210_0, c210_0, e210, hx210_0, hl210_0, hi210_0⟩ := at_L1 HR0_8.out x6_3 p210 q210; obtain rfl : ad208 = ad210 := (by injection e210); replace hx210_0 := (HB.out.cell (World.block_lt_of_cell? w _ hx210_0)).trans hx210_0; have HR210_0 := Aside0.mk hi210_0; have HC210_0 := Aside0.mk hl210_0; clear hi210_0 hl210_0; replace p210 := eq_true p210; replace q210 := eq_true q210; have ea_ := Option.some.inj (hx208_0.symm.trans hx210_0); injection ea_ with ea_ en_ ec_; subst ea_; subst ec_; clear en_))
                  repeat (go_quiet (first | (go_at_call 150; (try simp only [i64_w, i32_w]); (with_reducible refine (spec_PulsesFault.calls k3 _ _ (rd_L1 l0_8 x6_3) (wrap64 (8 - (wrap64 (2 * a0_3)))) t211 _ ?_ ?_ A38.out).mono ?_); exact cpl HR210_0.out; exact HC210_0.out; rintro e w' ⟨rfl, ⟨nd, rfl⟩⟩; (try first | exact ⟨rfl, _, World.drewN_drewN _ _ _⟩ | exact ⟨rfl, _, Eq.trans (World.drewN_drewN _ _ _) (congrArg (World.drewN _) (Nat.add_assoc _ _ _))⟩))); try go_wp2_with (first | (go_at_call 162; (try simp only [i64_w, i32_w]); (with_reducible refine (spec_l15Mine_any.calls (hbx := ?_) a0_0 a0_5 x6_3 true _ A33.out).mono ?_); exact Aside0.mk ⟨47, #[.int .i64 a0_0, .int .i64 a0_1, .int .i64 a0_2, .int .i64 a0_3, .int .i64 a0_4, .int .i64 a0_5, .slice A0_6 l0_6.length c0_6, .slice A0_7 l0_7.length c0_7, .slice A0_8 l0_8.length c0_8], (bpl BK194.out), (by first | rfl | exact ⟨rfl, rfl⟩)⟩; rintro e w44 ⟨rfl, hb⟩; replace HO_4 := rbl HO_4 hb; replace BK194 := bkb BK194 hb; replace HB := hbs hb; (try clear hb); obtain ⟨hcz45_0, hcz45_1, hcz45_2, hcz45_3, hcz45_4, hcz45_5, hcz45_6, hcz45_7, hcz45_8, hfz45_0, hfz45_1, hfz45_2, hfz45_3, hfz45_4, hfz45_5, hfz45_6, hfz45_7, hfz45_8⟩ := cf9 (W := w44) BK194.out; have p208 : 0 ≤ (x6_3 : Int) := dta; have q208 : x6_3 < (l0_8.length : Int) := dta; obtain ⟨ad208, A208_0, c208_0, e208, hx208_0, hl208_0, hi208_0⟩ := at_L1 HR0_8.out x6_3 p208 q208; cases e208; replace hx208_0 := (HB.out.cell (World.block_lt_of_cell? w _ hx208_0)).trans hx208_0; have HR208_0 := Aside0.mk hi208_0; have HC208_0 := Aside0.mk hl208_0; clear hi208_0 hl208_0; replace p208 := eq_true p208; replace q208 := eq_true q208; have p209 : 0 ≤ (x6_3 : Int) := dta; have q209 : x6_3 < (t197.length : Int) := dta; obtain ⟨ad209, e209, hx209_0, hx209_1⟩ := at_T93 (Kd.R_reads' HO_4.out).2.2 x6_3 p209 q209; cases e209; replace p209 := eq_true p209; replace q209 := eq_true q209; have p210 : 0 ≤ (x6_3 : Int) := dta; have q210 : x6_3 < (l0_8.length : Int) := dta; obtain ⟨ad210, A210_0, c210_0, e210, hx210_0, hl210_0, hi210_0⟩ := at_L1 HR0_8.out x6_3 p210 q210; obtain rfl : ad208 = ad210 := (by injection e210); replace hx210_0 := (HB.out.cell (World.block_lt_of_cell? w _ hx210_0)).trans hx210_0; have HR210_0 := Aside0.mk hi210_0; have HC210_0 := Aside0.mk hl210_0; clear hi210_0 hl210_0; replace p210 := eq_true p210; replace q210 := eq_true q210; have ea_ := Option.some.inj (hx208_0.symm.trans hx210_0); injection ea_ with ea_ en_ ec_; subst ea_; subst ec_; clear en_)))
                  go_ret
                  exact ⟨enq, bnx⟩
                ·rw [if_neg c37] at H
                 have c37b0 : (((rd_L1 l0_8 x6_3).length : Int) == ((rd_T93 t197 x6_3).f1)) = false := beq_eq_false_iff_ne.mpr c37
                 have c37b1 : (((rd_L1 l0_8 x6_3).length : Int) != ((rd_T93 t197 x6_3).f1)) = true := bne_iff_ne.mpr c37
                 obtain rfl := Option.some.inj H
                 obtain ⟨Ao46, co46, eo46⟩ := Kd.R_slice HO_4.out
                 subst eo46
                 go_wp2_with (first | (go_at_call 162; (with_reducible refine (spec_l15Mine_any.calls (hbx := ?_) a0_0 a0_5 x6_3 true _ A33.out).mono ?_); exact Aside0.mk ⟨47, #[.int .i64 a0_0, .int .i64 a0_1, .int .i64 a0_2, .int .i64 a0_3, .int .i64 a0_4, .int .i64 a0_5, .slice A0_6 l0_6.length c0_6, .slice A0_7 l0_7.length c0_7, .slice A0_8 l0_8.length c0_8], (bpl BK194.out), (by first | rfl | exact ⟨rfl, rfl⟩)⟩; rintro e w47 ⟨rfl, hb⟩; replace HO_4 := rbl HO_4 hb; replace BK194 := bkb BK194 hb; replace HB := hbs hb; (try clear hb); obtain ⟨hcz48_0, hcz48_1, hcz48_2, hcz48_3, hcz48_4, hcz48_5, hcz48_6, hcz48_7, hcz48_8, hfz48_0, hfz48_1, hfz48_2, hfz48_3, hfz48_4, hfz48_5, hfz48_6, hfz48_7, hfz48_8⟩ := cf9 (W := w47) BK194.out; have p208 : 0 ≤ (x6_3 : Int) := dta; have q208 : x6_3 < (l0_8.length : Int) := dta; obtain ⟨ad208, A208_0, c208_0, e208, hx208_0, hl208_0, hi208_0⟩ := at_L1 HR0_8.out x6_3 p208 q208; cases e208; replace hx208_0 := (HB.out.cell (World.block_lt_of_cell? w _ hx208_0)).trans hx208_0; have HR208_0 := Aside0.mk hi208_0; have HC208_0 := Aside0.mk hl208_0; clear hi208_0 hl208_0; replace p208 := eq_true p208; replace q208 := eq_true q208; have p209 : 0 ≤ (x6_3 : Int) := dta; have q209 : x6_3 < (t197.length : Int) := dta; obtain ⟨ad209, e209, hx209_0, hx209_1⟩ := at_T93 (Kd.R_reads' HO_4.out).2.2 x6_3 p209 q209; cases e209; replace p209 := eq_true p209; replace q209 := eq_true q209))
                 repeat (go_quiet (fail); try go_wp2_with (first | (go_at_call 162; (with_reducible refine (spec_l15Mine_any.calls (hbx := ?_) a0_0 a0_5 x6_3 true _ A33.out).mono ?_); exact Aside0.mk ⟨47, #[.int .i64 a0_0, .int .i64 a0_1, .int .i64 a0_2, .int .i64 a0_3, .int .i64 a0_4, .int .i64 a0_5, .slice A0_6 l0_6.length c0_6, .slice A0_7 l0_7.length c0_7, .slice A0_8 l0_8.length c0_8], (bpl BK194.out), (by first | rfl | exact ⟨rfl, rfl⟩)⟩; rintro e w47 ⟨rfl, hb⟩; replace HO_4 := rbl HO_4 hb; replace BK194 := bkb BK194 hb; replace HB := hbs hb; (try clear hb); obtain ⟨hcz48_0, hcz48_1, hcz48_2, hcz48_3, hcz48_4, hcz48_5, hcz48_6, hcz48_7, hcz48_8, hfz48_0, hfz48_1, hfz48_2, hfz48_3, hfz48_4, hfz48_5, hfz48_6, hfz48_7, hfz48_8⟩ := cf9 (W := w47) BK194.out; have p208 : 0 ≤ (x6_3 : Int) := dta; have q208 : x6_3 < (l0_8.length : Int) := dta; obtain ⟨ad208, A208_0, c208_0, e208, hx208_0, hl208_0, hi208_0⟩ := at_L1 HR0_8.out x6_3 p208 q208; cases e208; replace hx208_0 := (HB.out.cell (World.block_lt_of_cell? w _ hx208_0)).trans hx208_0; have HR208_0 := Aside0.mk hi208_0; have HC208_0 := Aside0.mk hl208_0; clear hi208_0 hl208_0; replace p208 := eq_true p208; replace q208 := eq_true q208; have p209 : 0 ≤ (x6_3 : Int) := dta; have q209 : x6_3 < (t197.length : Int) := dta; obtain ⟨ad209, e209, hx209_0, hx209_1⟩ := at_T93 (Kd.R_reads' HO_4.out).2.2 x6_3 p209 q209; cases e209; replace p209 := eq_true p209; replace q209 := eq_true q209)))
                 go_ret
                 exact ⟨enq, bnx⟩
               ·rw [if_neg c36] at H
                exact absurd H (by simp)
              ·rw [if_neg c35] at H
               exact absurd H (by simp)
             ·replace c34 := Bool.eq_false_iff.mpr c34
              subst c34
              replace H : (if 0 ≤ x6_3 then (if x6_3 < (l0_8.length : Int) then (if ((rd_L1 l0_8 x6_3).length : Int) > 0 then (some 1) else (spec_PartFault.l1 k3 t197 (wrap64 (x6_3 + 1)) a0_0 a0_1 a0_2 a0_3 a0_4 a0_5 l0_6 l0_7 l0_8)) else (none)) else (none)) = some r := by rw [if_neg (show ¬ (false = true) by decide)] at H; exact H
              by_cases c49 : 0 ≤ x6_3
              ·rw [if_pos c49] at H
               have c49b0 : decide (0 ≤ x6_3) = true := decide_eq_true c49
               clear c49
               by_cases c50 : x6_3 < (l0_8.length : Int)
               ·rw [if_pos c50] at H
                have c50b0 : decide (x6_3 < (l0_8.length : Int)) = true := decide_eq_true c50
                clear c50
                by_cases c51 : ((rd_L1 l0_8 x6_3).length : Int) > 0
                ·rw [if_pos c51] at H
                 have c51b0 : decide (0 < ((rd_L1 l0_8 x6_3).length : Int)) = true := decide_eq_true c51
                 have c51b1 : decide (0 < (rd_L1 l0_8 x6_3).length) = true := decide_eq_true (by omega)
                 clear c51
                 obtain rfl := Option.some.inj H
                 obtain ⟨Ao52, co52, eo52⟩ := Kd.R_slice HO_4.out
                 subst eo52
                 go_wp2_with (first | (go_at_call 162; (with_reducible refine (spec_l15Mine_any.calls (hbx := ?_) a0_0 a0_5 x6_3 false _ A33.out).mono ?_); exact Aside0.mk ⟨47, #[.int .i64 a0_0, .int .i64 a0_1, .int .i64 a0_2, .int .i64 a0_3, .int .i64 a0_4, .int .i64 a0_5, .slice A0_6 l0_6.length c0_6, .slice A0_7 l0_7.length c0_7, .slice A0_8 l0_8.length c0_8], (bpl BK194.out), (by first | rfl | exact ⟨rfl, rfl⟩)⟩; rintro e w53 ⟨rfl, hb⟩; replace HO_4 := rbl HO_4 hb; replace BK194 := bkb BK194 hb; replace HB := hbs hb; (try clear hb); obtain ⟨hcz54_0, hcz54_1, hcz54_2, hcz54_3, hcz54_4, hcz54_5, hcz54_6, hcz54_7, hcz54_8, hfz54_0, hfz54_1, hfz54_2, hfz54_3, hfz54_4, hfz54_5, hfz54_6, hfz54_7, hfz54_8⟩ := cf9 (W := w53) BK194.out; have p207 : 0 ≤ (x6_3 : Int) := dta; have q207 : x6_3 < (l0_8.length : Int) := dta; obtain ⟨ad207, A207_0, c207_0, e207, hx207_0, hl207_0, hi207_0⟩ := at_L1 HR0_8.out x6_3 p207 q207; cases e207; replace hx207_0 := (HB.out.cell (World.block_lt_of_cell? w _ hx207_0)).trans hx207_0; have HR207_0 := Aside0.mk hi207_0; have HC207_0 := Aside0.mk hl207_0; clear hi207_0 hl207_0; replace p207 := eq_true p207; replace q207 := eq_true q207))
                 repeat (go_quiet (fail); try go_wp2_with (first | (go_at_call 162; (with_reducible refine (spec_l15Mine_any.calls (hbx := ?_) a0_0 a0_5 x6_3 false _ A33.out).mono ?_); exact Aside0.mk ⟨47, #[.int .i64 a0_0, .int .i64 a0_1, .int .i64 a0_2, .int .i64 a0_3, .int .i64 a0_4, .int .i64 a0_5, .slice A0_6 l0_6.length c0_6, .slice A0_7 l0_7.length c0_7, .slice A0_8 l0_8.length c0_8], (bpl BK194.out), (by first | rfl | exact ⟨rfl, rfl⟩)⟩; rintro e w53 ⟨rfl, hb⟩; replace HO_4 := rbl HO_4 hb; replace BK194 := bkb BK194 hb; replace HB := hbs hb; (try clear hb); obtain ⟨hcz54_0, hcz54_1, hcz54_2, hcz54_3, hcz54_4, hcz54_5, hcz54_6, hcz54_7, hcz54_8, hfz54_0, hfz54_1, hfz54_2, hfz54_3, hfz54_4, hfz54_5, hfz54_6, hfz54_7, hfz54_8⟩ := cf9 (W := w53) BK194.out; have p207 : 0 ≤ (x6_3 : Int) := dta; have q207 : x6_3 < (l0_8.length : Int) := dta; obtain ⟨ad207, A207_0, c207_0, e207, hx207_0, hl207_0, hi207_0⟩ := at_L1 HR0_8.out x6_3 p207 q207; cases e207; replace hx207_0 := (HB.out.cell (World.block_lt_of_cell? w _ hx207_0)).trans hx207_0; have HR207_0 := Aside0.mk hi207_0; have HC207_0 := Aside0.mk hl207_0; clear hi207_0 hl207_0; replace p207 := eq_true p207; replace q207 := eq_true q207)))
                 go_ret
                 exact ⟨enq, bnx⟩
                ·rw [if_neg c51] at H
                 have c51b0 : decide (0 < ((rd_L1 l0_8 x6_3).length : Int)) = false := decide_eq_false c51
                 have c51b1 : decide (0 < (rd_L1 l0_8 x6_3).length) = false := decide_eq_false (by omega)
                 clear c51
                 have H' := Aside0.mk H
                 clear H
                 obtain ⟨Ao55, co55, eo55⟩ := Kd.R_slice HO_4.out
                 subst eo55
                 go_wp2_with (first | (go_at_call 162; (with_reducible refine (spec_l15Mine_any.calls (hbx := ?_) a0_0 a0_5 x6_3 false _ A33.out).mono ?_); exact Aside0.mk ⟨47, #[.int .i64 a0_0, .int .i64 a0_1, .int .i64 a0_2, .int .i64 a0_3, .int .i64 a0_4, .int .i64 a0_5, .slice A0_6 l0_6.length c0_6, .slice A0_7 l0_7.length c0_7, .slice A0_8 l0_8.length c0_8], (bpl BK194.out), (by first | rfl | exact ⟨rfl, rfl⟩)⟩; rintro e w56 ⟨rfl, hb⟩; replace HO_4 := rbl HO_4 hb; replace BK194 := bkb BK194 hb; replace HB := hbs hb; (try clear hb); obtain ⟨hcz57_0, hcz57_1, hcz57_2, hcz57_3, hcz57_4, hcz57_5, hcz57_6, hcz57_7, hcz57_8, hfz57_0, hfz57_1, hfz57_2, hfz57_3, hfz57_4, hfz57_5, hfz57_6, hfz57_7, hfz57_8⟩ := cf9 (W := w56) BK194.out; have p207 : 0 ≤ (x6_3 : Int) := dta; have q207 : x6_3 < (l0_8.length : Int) := dta; obtain ⟨ad207, A207_0, c207_0, e207, hx207_0, hl207_0, hi207_0⟩ := at_L1 HR0_8.out x6_3 p207 q207; cases e207; replace hx207_0 := (HB.out.cell (World.block_lt_of_cell? w _ hx207_0)).trans hx207_0; have HR207_0 := Aside0.mk hi207_0; have HC207_0 := Aside0.mk hl207_0; clear hi207_0 hl207_0; replace p207 := eq_true p207; replace q207 := eq_true q207))
                 repeat (go_quiet (fail); try go_wp2_with (first | (go_at_call 162; (with_reducible refine (spec_l15Mine_any.calls (hbx := ?_) a0_0 a0_5 x6_3 false _ A33.out).mono ?_); exact Aside0.mk ⟨47, #[.int .i64 a0_0, .int .i64 a0_1, .int .i64 a0_2, .int .i64 a0_3, .int .i64 a0_4, .int .i64 a0_5, .slice A0_6 l0_6.length c0_6, .slice A0_7 l0_7.length c0_7, .slice A0_8 l0_8.length c0_8], (bpl BK194.out), (by first | rfl | exact ⟨rfl, rfl⟩)⟩; rintro e w56 ⟨rfl, hb⟩; replace HO_4 := rbl HO_4 hb; replace BK194 := bkb BK194 hb; replace HB := hbs hb; (try clear hb); obtain ⟨hcz57_0, hcz57_1, hcz57_2, hcz57_3, hcz57_4, hcz57_5, hcz57_6, hcz57_7, hcz57_8, hfz57_0, hfz57_1, hfz57_2, hfz57_3, hfz57_4, hfz57_5, hfz57_6, hfz57_7, hfz57_8⟩ := cf9 (W := w56) BK194.out; have p207 : 0 ≤ (x6_3 : Int) := dta; have q207 : x6_3 < (l0_8.length : Int) := dta; obtain ⟨ad207, A207_0, c207_0, e207, hx207_0, hl207_0, hi207_0⟩ := at_L1 HR0_8.out x6_3 p207 q207; cases e207; replace hx207_0 := (HB.out.cell (World.block_lt_of_cell? w _ hx207_0)).trans hx207_0; have HR207_0 := Aside0.mk hi207_0; have HC207_0 := Aside0.mk hl207_0; clear hi207_0 hl207_0; replace p207 := eq_true p207; replace q207 := eq_true q207)))
                 go_roundg k3
                 case measure => have := HJ6.out; have := HK2.out; have := HK3.out; omega
                 case rel => exact ⟨(wrap64 (x6_3 + 1)), rq, H', ⟨by have := HJ6.out; have := HK2.out; have := HK3.out; omega⟩, ⟨by (with_reducible repeat (first | apply Kd.R_alloc | apply Kd.R_drewN | apply Kd.R_drew)); exact HO_4.out⟩, ⟨bpl BK194.out⟩, ⟨bnx⟩⟩
               ·rw [if_neg c50] at H
                exact absurd H (by simp)
              ·rw [if_neg c49] at H
               exact absurd H (by simp)
            ·rw [if_neg c32] at H
             have c32b0 : decide (x6_3 < (t197.length : Int)) = false := decide_eq_false c32
             clear c32
             obtain rfl := Option.some.inj H
             obtain ⟨Ao58, co58, eo58⟩ := Kd.R_slice HO_4.out
             subst eo58
             go_wp2
             repeat (go_quiet (fail); try go_wp2)
             go_ret
             exact ⟨enq, bnx⟩
         ·replace c30 := Bool.eq_false_iff.mpr c30
          subst c30
          replace H : (some 3) = some r := by rw [if_neg (show ¬ (false = true) by decide)] at H; exact H
          obtain rfl := Option.some.inj H
          obtain ⟨hcz59_0, hcz59_1, hcz59_2, hcz59_3, hcz59_4, hcz59_5, hcz59_6, hcz59_7, hcz59_8, hfz59_0, hfz59_1, hfz59_2, hfz59_3, hfz59_4, hfz59_5, hfz59_6, hfz59_7, hfz59_8⟩ := cf9 (W := wr) BK194.out
          go_wp2
          repeat (go_quiet (first | (go_at_call 149; (with_reducible refine (spec_l13Rung.calls a0_2 a0_3 t204 _ A28.out).mono ?_); rintro e w' ⟨rfl, ⟨nd, rfl⟩⟩; (try first | exact ⟨rfl, _, World.drewN_drewN _ _ _⟩ | exact ⟨rfl, _, Eq.trans (World.drewN_drewN _ _ _) (congrArg (World.drewN _) (Nat.add_assoc _ _ _))⟩)) | (go_at_call 148; (with_reducible refine (spec_l14Gains.calls k2 _ _ l0_7 t204 false _ ?side1 ?side2 A29.out).mono ?_); (case side1 => repeat (first | exact (Kd.C_below HR0_7.out bnx) | (with_reducible refine Kd.C_alloc ?_ _) | (with_reducible refine Kd.C_drewN ?_ _) | (with_reducible refine Kd.C_drew ?_))); (case side2 => exact HC0_7.out); rintro e w' ⟨rfl, ⟨nd, rfl⟩⟩; (try first | exact ⟨rfl, _, World.drewN_drewN _ _ _⟩ | exact ⟨rfl, _, Eq.trans (World.drewN_drewN _ _ _) (congrArg (World.drewN _) (Nat.add_assoc _ _ _))⟩))); try go_wp2)
          go_ret
          exact ⟨enq, bnx⟩
  ·replace c5 := Bool.eq_false_iff.mpr c5
   subst c5
   replace H : (some 3) = some r := by rw [if_neg (show ¬ (false = true) by decide)] at H; exact H
   obtain rfl := Option.some.inj H
   go_enter Try.func84, Try.ntmps84
   go_wp2_with (first | ((with_reducible refine gate_dst (N := 1) rfl ?_); (try (refine gate_guard (by rfl) ?_; dsimp only)); refine bev 1 47 #[.int .i64 a0_0, .int .i64 a0_1, .int .i64 a0_2, .int .i64 a0_3, .int .i64 a0_4, .int .i64 a0_5, .slice A0_6 l0_6.length c0_6, .slice A0_7 l0_7.length c0_7, .slice A0_8 l0_8.length c0_8] ?_; intro gb194 hg w60 hbox hb; have BK194 := am hbox; have GW194 := gwe hg; have GE194 := gwe hg; replace HB := hbs hb; clear hb hbox hg; obtain ⟨hcz61_0, hcz61_1, hcz61_2, hcz61_3, hcz61_4, hcz61_5, hcz61_6, hcz61_7, hcz61_8, hfz61_0, hfz61_1, hfz61_2, hfz61_3, hfz61_4, hfz61_5, hfz61_6, hfz61_7, hfz61_8⟩ := cf9 (W := w60) BK194.out) | (go_at_call 144; (with_reducible refine (spec_l14Head.calls a0_0 a0_1 a0_2 a0_3 a0_4 t195 _ A2.out).mono ?_); rintro e w' ⟨rfl, ⟨nd, rfl⟩⟩; (try first | exact ⟨rfl, _, World.drewN_drewN _ _ _⟩ | exact ⟨rfl, _, Eq.trans (World.drewN_drewN _ _ _) (congrArg (World.drewN _) (Nat.add_assoc _ _ _))⟩)) | (go_at_call 96; (with_reducible refine (spec_l1In.calls a0_5 0 1 false _ A4.out).mono ?_); rintro e w' ⟨rfl, ⟨nd, rfl⟩⟩; (try first | exact ⟨rfl, _, World.drewN_drewN _ _ _⟩ | exact ⟨rfl, _, Eq.trans (World.drewN_drewN _ _ _) (congrArg (World.drewN _) (Nat.add_assoc _ _ _))⟩)))
   repeat (go_quiet (fail); try go_wp2_with (first | ((with_reducible refine gate_dst (N := 1) rfl ?_); (try (refine gate_guard (by rfl) ?_; dsimp only)); refine bev 1 47 #[.int .i64 a0_0, .int .i64 a0_1, .int .i64 a0_2, .int .i64 a0_3, .int .i64 a0_4, .int .i64 a0_5, .slice A0_6 l0_6.length c0_6, .slice A0_7 l0_7.length c0_7, .slice A0_8 l0_8.length c0_8] ?_; intro gb194 hg w60 hbox hb; have BK194 := am hbox; have GW194 := gwe hg; have GE194 := gwe hg; replace HB := hbs hb; clear hb hbox hg; obtain ⟨hcz61_0, hcz61_1, hcz61_2, hcz61_3, hcz61_4, hcz61_5, hcz61_6, hcz61_7, hcz61_8, hfz61_0, hfz61_1, hfz61_2, hfz61_3, hfz61_4, hfz61_5, hfz61_6, hfz61_7, hfz61_8⟩ := cf9 (W := w60) BK194.out) | (go_at_call 144; (with_reducible refine (spec_l14Head.calls a0_0 a0_1 a0_2 a0_3 a0_4 t195 _ A2.out).mono ?_); rintro e w' ⟨rfl, ⟨nd, rfl⟩⟩; (try first | exact ⟨rfl, _, World.drewN_drewN _ _ _⟩ | exact ⟨rfl, _, Eq.trans (World.drewN_drewN _ _ _) (congrArg (World.drewN _) (Nat.add_assoc _ _ _))⟩)) | (go_at_call 96; (with_reducible refine (spec_l1In.calls a0_5 0 1 false _ A4.out).mono ?_); rintro e w' ⟨rfl, ⟨nd, rfl⟩⟩; (try first | exact ⟨rfl, _, World.drewN_drewN _ _ _⟩ | exact ⟨rfl, _, Eq.trans (World.drewN_drewN _ _ _) (congrArg (World.drewN _) (Nat.add_assoc _ _ _))⟩))))
   go_ret
   exact ⟨enq, bnx⟩
 ·rw [if_neg c3] at H
  have c3b0 : (t195 == 0) = false := beq_eq_false_iff_ne.mpr c3
  have c3b1 : (t195 != 0) = true := bne_iff_ne.mpr c3
  obtain rfl := Option.some.inj H
  go_enter Try.func84, Try.ntmps84
  go_wp2_with (first | ((with_reducible refine gate_dst (N := 1) rfl ?_); (try (refine gate_guard (by rfl) ?_; dsimp only)); refine bev 1 47 #[.int .i64 a0_0, .int .i64 a0_1, .int .i64 a0_2, .int .i64 a0_3, .int .i64 a0_4, .int .i64 a0_5, .slice A0_6 l0_6.length c0_6, .slice A0_7 l0_7.length c0_7, .slice A0_8 l0_8.length c0_8] ?_; intro gb194 hg w62 hbox hb; have BK194 := am hbox; have GW194 := gwe hg; have GE194 := gwe hg; replace HB := hbs hb; clear hb hbox hg; obtain ⟨hcz63_0, hcz63_1, hcz63_2, hcz63_3, hcz63_4, hcz63_5, hcz63_6, hcz63_7, hcz63_8, hfz63_0, hfz63_1, hfz63_2, hfz63_3, hfz63_4, hfz63_5, hfz63_6, hfz63_7, hfz63_8⟩ := cf9 (W := w62) BK194.out) | (go_at_call 144; (with_reducible refine (spec_l14Head.calls a0_0 a0_1 a0_2 a0_3 a0_4 t195 _ A2.out).mono ?_); rintro e w' ⟨rfl, ⟨nd, rfl⟩⟩; (try first | exact ⟨rfl, _, World.drewN_drewN _ _ _⟩ | exact ⟨rfl, _, Eq.trans (World.drewN_drewN _ _ _) (congrArg (World.drewN _) (Nat.add_assoc _ _ _))⟩)))
  repeat (go_quiet (fail); try go_wp2_with (first | ((with_reducible refine gate_dst (N := 1) rfl ?_); (try (refine gate_guard (by rfl) ?_; dsimp only)); refine bev 1 47 #[.int .i64 a0_0, .int .i64 a0_1, .int .i64 a0_2, .int .i64 a0_3, .int .i64 a0_4, .int .i64 a0_5, .slice A0_6 l0_6.length c0_6, .slice A0_7 l0_7.length c0_7, .slice A0_8 l0_8.length c0_8] ?_; intro gb194 hg w62 hbox hb; have BK194 := am hbox; have GW194 := gwe hg; have GE194 := gwe hg; replace HB := hbs hb; clear hb hbox hg; obtain ⟨hcz63_0, hcz63_1, hcz63_2, hcz63_3, hcz63_4, hcz63_5, hcz63_6, hcz63_7, hcz63_8, hfz63_0, hfz63_1, hfz63_2, hfz63_3, hfz63_4, hfz63_5, hfz63_6, hfz63_7, hfz63_8⟩ := cf9 (W := w62) BK194.out) | (go_at_call 144; (with_reducible refine (spec_l14Head.calls a0_0 a0_1 a0_2 a0_3 a0_4 t195 _ A2.out).mono ?_); rintro e w' ⟨rfl, ⟨nd, rfl⟩⟩; (try first | exact ⟨rfl, _, World.drewN_drewN _ _ _⟩ | exact ⟨rfl, _, Eq.trans (World.drewN_drewN _ _ _) (congrArg (World.drewN _) (Nat.add_assoc _ _ _))⟩))))
  go_ret
  exact ⟨enq, bnx⟩

end Go.Proofs.Ythehhncokikgcaa.PFnExactPartOf
