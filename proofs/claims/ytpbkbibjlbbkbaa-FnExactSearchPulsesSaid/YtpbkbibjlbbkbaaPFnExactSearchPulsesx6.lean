-- Contracts of the functions that the law reaches, written by wip/xprint.py of this repo.
import Derived.Test.YtpbkbibjlbbkbaaPFnExactSearchPulsesx0
import Derived.Test.YtpbkbibjlbbkbaaPFnExactSearchPulsesx1
import Derived.Test.YtpbkbibjlbbkbaaPFnExactSearchPulsesx4
import Derived.Test.YtpbkbibjlbbkbaaPFnExactSearchPulsesx5
namespace Go.Proofs.Ytpbkbibjlbbkbaa.PFnExactSearchPulses
open Go.RowKit Go.Proofs.YtpbkbibjlbbkbaaW.PrintWords Go.Proofs.YtpbkbibjlbbkbaaW.PrintLast Go.Proofs.YtpbkbibjlbbkbaaW.PrintMore
attribute [local go_sem] max2_int min2_int max_two min_two max_three min_three max_four min_four   -- for this text's walks alone
set_option linter.unusedVariables false
set_option linter.unusedSimpArgs false

/-! ### impl_SearchPulses: function 49 -/
def impl_SearchPulses.f (k : Nat) (l0 : List Int) (a1 : Int) : Option (Int × List Int) := (impl_isDim.f (l0.length : Int)).bind fun t162 => ((impl_codeIf.f (!t162) 2).bind fun t163 => ((impl_inRange.f a1 1 8).bind fun t164 => (if t164 = true then ((impl_allWithin.f l0 16777216).bind fun t165 => ((impl_codeIf.f (!t165) 3).bind fun t166 => ((impl_first.f k (([t163, t166] : List Int))).bind fun t170 => (if t170 = 0 then ((impl_searchPulses.f l0 a1).bind fun t171 => (some (0, t171))) else (some (t170, ([] : List Int))))))) else ((impl_codeIf.f true 3).bind fun t174 => ((impl_first.f k (([t163, t174] : List Int))).bind fun t178 => (if t178 = 0 then ((impl_searchPulses.f l0 a1).bind fun t179 => (some (0, t179))) else (some (t178, ([] : List Int)))))))))
theorem impl_SearchPulses.mono : ∀ a0 a1 k, LeO (impl_SearchPulses.f k a0 a1) (impl_SearchPulses.f (k + 1) a0 a1) := by
 intro a0 a1 k
 unfold impl_SearchPulses.f
 repeat' first
   | (with_reducible exact impl_first.mono _ _)
   | (with_reducible exact LeO.refl _)
   | (with_reducible exact LeO.none _)
   | (with_reducible refine LeO.ite ?_ ?_)
   | (with_reducible refine LeO.bind ?_ (fun _ => ?_))
   | exact impl_first.mono _ _
   | exact LeO.none _
   | refine LeO.ite ?_ ?_
   | refine LeO.bind ?_ (fun _ => ?_)
set_option maxHeartbeats 8000000 in
set_option maxRecDepth 100000 in
theorem impl_SearchPulses.calls (k : Nat) (A0 : Option Addr) (c0 : Nat) (l0 : List Int) (a1 : Int) (r1 : Int) (r2 : List Int) (w : World) (hr0 : Kd.C (Kd.int .i64) w A0 l0.length l0) (hc0 : l0.length ≤ c0) (h : impl_SearchPulses.f k l0 a1 = some (r1, r2)) :
  Calls Try.prog 49 #[.slice A0 l0.length c0, .int .i64 a1] w fun e w' => ∃ v1_ : Value, e = .returned (.agg #[.int .i64 r1, v1_]) ∧ Kd.R (Kd.int .i64) 2 w' w.heap.size (fun _ => True) v1_ r2 ∧ Below w.heap.size w w' := by
 have hu28 := Try.underlying28
 have HR0 := Aside0.mk hr0
 have HC0 := Aside0.mk hc0
 clear hr0 hc0
 have HB := Aside0.mk (Below.refl w.heap.size w)
 have H : ((impl_isDim.f (l0.length : Int)).bind fun t162 => ((impl_codeIf.f (!t162) 2).bind fun t163 => ((impl_inRange.f a1 1 8).bind fun t164 => (if t164 = true then ((impl_allWithin.f l0 16777216).bind fun t165 => ((impl_codeIf.f (!t165) 3).bind fun t166 => ((impl_first.f k (([t163, t166] : List Int))).bind fun t170 => (if t170 = 0 then ((impl_searchPulses.f l0 a1).bind fun t171 => (some (0, t171))) else (some (t170, ([] : List Int))))))) else ((impl_codeIf.f true 3).bind fun t174 => ((impl_first.f k (([t163, t174] : List Int))).bind fun t178 => (if t178 = 0 then ((impl_searchPulses.f l0 a1).bind fun t179 => (some (0, t179))) else (some (t178, ([] : List Int)))))))))) = some (r1, r2) := h
 clear h
 replace H := bnd H
 obtain ⟨t162, A3, H⟩ := H
 replace H := bnd H
 obtain ⟨t163, A4, H⟩ := H
 replace H := bnd H
 obtain ⟨t164, A5, H⟩ := H
 by_cases c6 : t164 = true
 ·subst c6
  replace H : ((impl_allWithin.f l0 16777216).bind fun t165 => ((impl_codeIf.f (!t165) 3).bind fun t166 => ((impl_first.f k (([t163, t166] : List Int))).bind fun t170 => (if t170 = 0 then ((impl_searchPulses.f l0 a1).bind fun t171 => (some (0, t171))) else (some (t170, ([] : List Int))))))) = some (r1, r2) := by rw [if_pos rfl] at H; exact H
  replace H := bnd H
  obtain ⟨t165, A7, H⟩ := H
  replace H := bnd H
  obtain ⟨t166, A8, H⟩ := H
  obtain ⟨y167, hy167⟩ : ∃ y_ : List Int, y_ = (([t163, t166] : List Int)) := ⟨_, rfl⟩
  replace H : ((impl_first.f k y167).bind fun t170 => (if t170 = 0 then ((impl_searchPulses.f l0 a1).bind fun t171 => (some (0, t171))) else (some (t170, ([] : List Int))))) = some (r1, r2) := by first | (rw [hy167]; with_reducible exact H) | (have H2_ := (Option.bind_some _ _).symm.trans H; rw [hy167]; with_reducible exact H2_) | (have H2_ := (Option.bind_some _ _).symm.trans H; with_reducible exact H2_) | with_reducible exact H | (rw [hy167]; exact H) | exact H
  have Ny167 := Aside0.mk hy167
  clear hy167
  replace H := bnd H
  obtain ⟨t170, A9, H⟩ := H
  by_cases c10 : t170 = 0
  ·rw [if_pos c10] at H
   have c10b0 : (t170 == 0) = true := beq_iff_eq.mpr c10
   have c10b1 : (t170 != 0) = false := bne_eq_false_iff_eq.mpr c10
   clear c10
   replace H := bnd H
   obtain ⟨t171, A11, H⟩ := H
   simp only [Option.some.injEq, Prod.mk.injEq] at H
   obtain ⟨rfl, rfl⟩ := H
   go_enter Try.func49, Try.ntmps49
   go_wp2_with (first | ((with_reducible refine gate_dst (N := 4) rfl ?_); refine bev 4 28 #[.int .i64 0, .slice none 0 0] ?_; intro gb161 hg w12 hbox hb; have BK161 := am hbox; have GW161 := gwe hg; have GE161 := gwe hg; replace HB := hbs hb; clear hb hbox hg) | ((with_reducible refine gate_callee (f := 119) rfl ?_); refine gl_ 8 Try.func119 #[.int .i64 (l0.length : Int)] ?_; (with_reducible refine (impl_isDim.calls (l0.length : Int) t162 _ A3.out).mono ?_); rintro e w' ⟨rfl, ⟨nd, rfl⟩⟩; refine ⟨_, rfl, ?_⟩; (try ((repeat rw [World.drewN_drewN w12]); rw [drewN_self w12]; generalize hq_ : World.drewN w12 _ = w12; have n0_ : Aside0 (w12.heap[gb161]? = some (.cells #[.int .i64 0, .slice none 0 0] 28 (0, 0))) := ⟨by rw [← hq_]; exact (bpl BK161.out)⟩; have n1_ : Aside0 (Below w.heap.size w w12) := ⟨by rw [← hq_]; exact bnx⟩; clear BK161 HB hq_; have BK161 := n0_; have HB := n1_; clear n0_ n1_))) | ((with_reducible refine gate_callee (f := 118) rfl ?_); refine gl_ 10 Try.func118 #[.bool (!t162), .int .i64 2] ?_; (with_reducible refine (impl_codeIf.calls (!t162) 2 t163 _ A4.out).mono ?_); rintro e w' ⟨rfl, ⟨nd, rfl⟩⟩; refine ⟨_, rfl, ?_⟩; (try ((repeat rw [World.drewN_drewN w12]); rw [drewN_self w12]; generalize hq_ : World.drewN w12 _ = w12; have n0_ : Aside0 (w12.heap[gb161]? = some (.cells #[.int .i64 0, .slice none 0 0] 28 (0, 0))) := ⟨by rw [← hq_]; exact (bpl BK161.out)⟩; have n1_ : Aside0 (Below w.heap.size w w12) := ⟨by rw [← hq_]; exact bnx⟩; clear BK161 HB hq_; have BK161 := n0_; have HB := n1_; clear n0_ n1_))) | ((with_reducible refine gate_callee (f := 125) rfl ?_); refine gl_ 12 Try.func125 #[.int .i64 a1, .int .i64 1, .int .i64 8] ?_; (with_reducible refine (impl_inRange.calls a1 1 8 true _ A5.out).mono ?_); rintro e w' ⟨rfl, ⟨nd, rfl⟩⟩; refine ⟨_, rfl, ?_⟩; (try ((repeat rw [World.drewN_drewN w12]); rw [drewN_self w12]; generalize hq_ : World.drewN w12 _ = w12; have n0_ : Aside0 (w12.heap[gb161]? = some (.cells #[.int .i64 0, .slice none 0 0] 28 (0, 0))) := ⟨by rw [← hq_]; exact (bpl BK161.out)⟩; have n1_ : Aside0 (Below w.heap.size w w12) := ⟨by rw [← hq_]; exact bnx⟩; clear BK161 HB hq_; have BK161 := n0_; have HB := n1_; clear n0_ n1_))) | (go_at_call 121; (with_reducible refine (impl_allWithin.calls _ _ l0 16777216 t165 _ ?_ ?_ A7.out).mono ?_); exact cpl HR0.out; exact HC0.out; rintro e w13 ⟨rfl, hb⟩; replace BK161 := bkb BK161 hb; replace HB := hbs hb; (try clear hb)) | ((with_reducible refine gate_callee (f := 118) rfl ?_); refine gl_ 19 Try.func118 #[.bool (!t165), .int .i64 3] ?_; (with_reducible refine (impl_codeIf.calls (!t165) 3 t166 _ A8.out).mono ?_); rintro e w' ⟨rfl, ⟨nd, rfl⟩⟩; refine ⟨_, rfl, ?_⟩; (try ((repeat rw [World.drewN_drewN w13]); rw [drewN_self w13]; generalize hq_ : World.drewN w13 _ = w13; have n0_ : Aside0 (w13.heap[gb161]? = some (.cells #[.int .i64 0, .slice none 0 0] 28 (0, 0))) := ⟨by rw [← hq_]; exact (bpl BK161.out)⟩; have n1_ : Aside0 (Below w.heap.size w w13) := ⟨by rw [← hq_]; exact bnx⟩; clear BK161 HB hq_; have BK161 := n0_; have HB := n1_; clear n0_ n1_))) | ((with_reducible refine gate_dst (N := 20) rfl ?_); refine Kd.R_lit (Kd.int .i64) _ 2 ?hg (N := 20) ?hd (xs := ([t163, t166] : List Int)) (inner := [.int .i64 t163, .int .i64 t166]) (ok := fun _ => True) (okp := fun _ => True) ?hr ?hp (fun _ hk => hk) trivial (Below.refl _ _) (Nat.le_refl _) (by simp) ?_; (case hd => rfl); (case hg => rfl); (case hr => first | (go_simp; done) | (go_simp; rfl)); (case hp => exact (Reps.one (show Kd.M (Kd.int .i64) _ _ _ t163 [.int .i64 t163] from rfl) (Reps.one (show Kd.M (Kd.int .i64) _ _ _ t166 [.int .i64 t166] from rfl) (Reps.none _ _)))); intro v168 w14 ho15 hb hg_ hnew_; clear hg_ hnew_; (first | rw [← Ny167.out] at ho15 | (simp only [Int.reduceToNat] at ho15; rw [← Ny167.out] at ho15)); have HO169 := rlw ho15; replace BK161 := bkb BK161 hb; replace HB := hbs hb; clear hb ho15; obtain ⟨Ao16, co16, eo16⟩ := Kd.R_slice HO169.out; subst eo16) | ((with_reducible refine gate_callee (f := 117) rfl ?_); refine gl_ 21 Try.func117 #[.slice Ao16 y167.length co16] ?_; (with_reducible refine (impl_first.calls k _ _ y167 t170 _ ?_ ?_ A9.out).mono ?_); exact crd HO169; exact (Kd.R_reads' HO169.out).2.1; rintro e w' ⟨rfl, ⟨nd, rfl⟩⟩; refine ⟨_, rfl, ?_⟩; (try ((repeat rw [World.drewN_drewN w14]); rw [drewN_self w14]; generalize hq_ : World.drewN w14 _ = w14; have n0_ : Aside0 (Kd.R (Kd.int .i64) 2 w14 w.heap.size (fun _ => True) (.slice Ao16 y167.length co16) y167) := ⟨by rw [← hq_]; exact (rpl HO169.out)⟩; have n1_ : Aside0 (w14.heap[gb161]? = some (.cells #[.int .i64 0, .slice none 0 0] 28 (0, 0))) := ⟨by rw [← hq_]; exact (bpl BK161.out)⟩; have n2_ : Aside0 (Below w.heap.size w w14) := ⟨by rw [← hq_]; exact bnx⟩; clear HO169 BK161 HB hq_; have HO169 := n0_; have BK161 := n1_; have HB := n2_; clear n0_ n1_ n2_))) | ((with_reducible refine gate_callee (f := 130) rfl ?_); refine gl_ 28 Try.func130 #[.slice A0 l0.length c0, .int .i64 a1] ?_; (with_reducible refine (impl_searchPulses.calls _ _ l0 a1 t171 _ ?_ ?_ A11.out).mono ?_); exact cpl HR0.out; exact HC0.out; rintro e w17 ⟨v172, rfl, ho0, hb⟩; refine ⟨_, rfl, ?_⟩; have HO173 := am (Kd.R_lower (Kd.R_new' ho0 (rlt HO169)) bsz); replace HO169 := rel HO169 ho0 hb; replace BK161 := bkb BK161 hb; replace HB := hbs hb; (try clear hb); (try clear ho0); obtain ⟨Ao18, co18, eo18⟩ := Kd.R_slice HO173.out; subst eo18; obtain ⟨hcz19_0, hcz19_1, hfz19_0, hfz19_1⟩ := cf2 (W := w17) BK161.out))
   refine bodyPost_ret (results_cell_row rfl _ _ gb161 28 #[.int .i64 0, .slice Ao18 t171.length co18] (0, 0) _ rfl (by (with_reducible repeat (first | refine blk_drewN ?_ _ | refine blk_drew ?_ | refine blk_alloc ?_ _)); refine blk_put (cs := #[.int .i64 0, .slice none 0 0]) ?_ 1 _ rfl; (with_reducible repeat (first | refine blk_drewN ?_ _ | refine blk_drew ?_ | refine blk_alloc ?_ _)); refine blk_put (cs := #[.int .i64 0, .slice none 0 0]) ?_ 0 _ rfl; exact bpl BK161.out) Try.underlying28 rfl (by kernel_rfl)) rfl ?_
   exact ⟨_, enq, by (with_reducible repeat (first | apply Kd.R_alloc | apply Kd.R_drewN | apply Kd.R_drew)); exact Kd.R_mono (Kd.R_far (p := ⟨gb161, 1, none⟩) (Kd.R_far (p := ⟨gb161, 0, none⟩) (Kd.R_types HO173.out BK161.out (by decide)) (fun _ hk => hk.2) (.int .i64 0)) (fun _ hk => hk.2) (.slice Ao18 t171.length co18)) (fun _ hk => trivial), bnx⟩
  ·rw [if_neg c10] at H
   have c10b0 : (t170 == 0) = false := beq_eq_false_iff_ne.mpr c10
   have c10b1 : (t170 != 0) = true := bne_iff_ne.mpr c10
   simp only [Option.some.injEq, Prod.mk.injEq] at H
   obtain ⟨rfl, rfl⟩ := H
   go_enter Try.func49, Try.ntmps49
   go_wp2_with (first | ((with_reducible refine gate_dst (N := 4) rfl ?_); refine bev 4 28 #[.int .i64 0, .slice none 0 0] ?_; intro gb161 hg w20 hbox hb; have BK161 := am hbox; have GW161 := gwe hg; have GE161 := gwe hg; replace HB := hbs hb; clear hb hbox hg) | ((with_reducible refine gate_callee (f := 119) rfl ?_); refine gl_ 8 Try.func119 #[.int .i64 (l0.length : Int)] ?_; (with_reducible refine (impl_isDim.calls (l0.length : Int) t162 _ A3.out).mono ?_); rintro e w' ⟨rfl, ⟨nd, rfl⟩⟩; refine ⟨_, rfl, ?_⟩; (try ((repeat rw [World.drewN_drewN w20]); rw [drewN_self w20]; generalize hq_ : World.drewN w20 _ = w20; have n0_ : Aside0 (w20.heap[gb161]? = some (.cells #[.int .i64 0, .slice none 0 0] 28 (0, 0))) := ⟨by rw [← hq_]; exact (bpl BK161.out)⟩; have n1_ : Aside0 (Below w.heap.size w w20) := ⟨by rw [← hq_]; exact bnx⟩; clear BK161 HB hq_; have BK161 := n0_; have HB := n1_; clear n0_ n1_))) | ((with_reducible refine gate_callee (f := 118) rfl ?_); refine gl_ 10 Try.func118 #[.bool (!t162), .int .i64 2] ?_; (with_reducible refine (impl_codeIf.calls (!t162) 2 t163 _ A4.out).mono ?_); rintro e w' ⟨rfl, ⟨nd, rfl⟩⟩; refine ⟨_, rfl, ?_⟩; (try ((repeat rw [World.drewN_drewN w20]); rw [drewN_self w20]; generalize hq_ : World.drewN w20 _ = w20; have n0_ : Aside0 (w20.heap[gb161]? = some (.cells #[.int .i64 0, .slice none 0 0] 28 (0, 0))) := ⟨by rw [← hq_]; exact (bpl BK161.out)⟩; have n1_ : Aside0 (Below w.heap.size w w20) := ⟨by rw [← hq_]; exact bnx⟩; clear BK161 HB hq_; have BK161 := n0_; have HB := n1_; clear n0_ n1_))) | ((with_reducible refine gate_callee (f := 125) rfl ?_); refine gl_ 12 Try.func125 #[.int .i64 a1, .int .i64 1, .int .i64 8] ?_; (with_reducible refine (impl_inRange.calls a1 1 8 true _ A5.out).mono ?_); rintro e w' ⟨rfl, ⟨nd, rfl⟩⟩; refine ⟨_, rfl, ?_⟩; (try ((repeat rw [World.drewN_drewN w20]); rw [drewN_self w20]; generalize hq_ : World.drewN w20 _ = w20; have n0_ : Aside0 (w20.heap[gb161]? = some (.cells #[.int .i64 0, .slice none 0 0] 28 (0, 0))) := ⟨by rw [← hq_]; exact (bpl BK161.out)⟩; have n1_ : Aside0 (Below w.heap.size w w20) := ⟨by rw [← hq_]; exact bnx⟩; clear BK161 HB hq_; have BK161 := n0_; have HB := n1_; clear n0_ n1_))) | (go_at_call 121; (with_reducible refine (impl_allWithin.calls _ _ l0 16777216 t165 _ ?_ ?_ A7.out).mono ?_); exact cpl HR0.out; exact HC0.out; rintro e w21 ⟨rfl, hb⟩; replace BK161 := bkb BK161 hb; replace HB := hbs hb; (try clear hb)) | ((with_reducible refine gate_callee (f := 118) rfl ?_); refine gl_ 19 Try.func118 #[.bool (!t165), .int .i64 3] ?_; (with_reducible refine (impl_codeIf.calls (!t165) 3 t166 _ A8.out).mono ?_); rintro e w' ⟨rfl, ⟨nd, rfl⟩⟩; refine ⟨_, rfl, ?_⟩; (try ((repeat rw [World.drewN_drewN w21]); rw [drewN_self w21]; generalize hq_ : World.drewN w21 _ = w21; have n0_ : Aside0 (w21.heap[gb161]? = some (.cells #[.int .i64 0, .slice none 0 0] 28 (0, 0))) := ⟨by rw [← hq_]; exact (bpl BK161.out)⟩; have n1_ : Aside0 (Below w.heap.size w w21) := ⟨by rw [← hq_]; exact bnx⟩; clear BK161 HB hq_; have BK161 := n0_; have HB := n1_; clear n0_ n1_))) | ((with_reducible refine gate_dst (N := 20) rfl ?_); refine Kd.R_lit (Kd.int .i64) _ 2 ?hg (N := 20) ?hd (xs := ([t163, t166] : List Int)) (inner := [.int .i64 t163, .int .i64 t166]) (ok := fun _ => True) (okp := fun _ => True) ?hr ?hp (fun _ hk => hk) trivial (Below.refl _ _) (Nat.le_refl _) (by simp) ?_; (case hd => rfl); (case hg => rfl); (case hr => first | (go_simp; done) | (go_simp; rfl)); (case hp => exact (Reps.one (show Kd.M (Kd.int .i64) _ _ _ t163 [.int .i64 t163] from rfl) (Reps.one (show Kd.M (Kd.int .i64) _ _ _ t166 [.int .i64 t166] from rfl) (Reps.none _ _)))); intro v168 w22 ho23 hb hg_ hnew_; clear hg_ hnew_; (first | rw [← Ny167.out] at ho23 | (simp only [Int.reduceToNat] at ho23; rw [← Ny167.out] at ho23)); have HO169 := rlw ho23; replace BK161 := bkb BK161 hb; replace HB := hbs hb; clear hb ho23; obtain ⟨Ao24, co24, eo24⟩ := Kd.R_slice HO169.out; subst eo24) | ((with_reducible refine gate_callee (f := 117) rfl ?_); refine gl_ 21 Try.func117 #[.slice Ao24 y167.length co24] ?_; (with_reducible refine (impl_first.calls k _ _ y167 t170 _ ?_ ?_ A9.out).mono ?_); exact crd HO169; exact (Kd.R_reads' HO169.out).2.1; rintro e w' ⟨rfl, ⟨nd, rfl⟩⟩; refine ⟨_, rfl, ?_⟩; (try ((repeat rw [World.drewN_drewN w22]); rw [drewN_self w22]; generalize hq_ : World.drewN w22 _ = w22; have n0_ : Aside0 (Kd.R (Kd.int .i64) 2 w22 w.heap.size (fun _ => True) (.slice Ao24 y167.length co24) y167) := ⟨by rw [← hq_]; exact (rpl HO169.out)⟩; have n1_ : Aside0 (w22.heap[gb161]? = some (.cells #[.int .i64 0, .slice none 0 0] 28 (0, 0))) := ⟨by rw [← hq_]; exact (bpl BK161.out)⟩; have n2_ : Aside0 (Below w.heap.size w w22) := ⟨by rw [← hq_]; exact bnx⟩; clear HO169 BK161 HB hq_; have HO169 := n0_; have BK161 := n1_; have HB := n2_; clear n0_ n1_ n2_)); obtain ⟨hcz25_0, hcz25_1, hfz25_0, hfz25_1⟩ := cf2 (W := w22) BK161.out))
   refine bodyPost_ret (results_cell_row rfl _ _ gb161 28 #[.int .i64 t170, .slice none 0 0] (0, 0) _ rfl (by (with_reducible repeat (first | refine blk_drewN ?_ _ | refine blk_drew ?_ | refine blk_alloc ?_ _)); refine blk_put (cs := #[.int .i64 t170, .slice none 0 0]) ?_ 1 _ rfl; (with_reducible repeat (first | refine blk_drewN ?_ _ | refine blk_drew ?_ | refine blk_alloc ?_ _)); refine blk_put (cs := #[.int .i64 0, .slice none 0 0]) ?_ 0 _ rfl; exact bpl BK161.out) Try.underlying28 rfl (by kernel_rfl)) rfl ?_
   exact ⟨_, enq, by first | exact Kd.R_nil _ _ _ _ _ | exact Kd.N_nil _ _ _ _ _ | exact Kd.V_nil _ _ _ _ _ | exact Kd.Q_nil _ _ _ _ _ | exact Kd.S_nil _ _ _ _ _, bnx⟩
 ·replace c6 := Bool.eq_false_iff.mpr c6
  subst c6
  replace H : ((impl_codeIf.f true 3).bind fun t174 => ((impl_first.f k (([t163, t174] : List Int))).bind fun t178 => (if t178 = 0 then ((impl_searchPulses.f l0 a1).bind fun t179 => (some (0, t179))) else (some (t178, ([] : List Int)))))) = some (r1, r2) := by rw [if_neg (show ¬ (false = true) by decide)] at H; exact H
  replace H := bnd H
  obtain ⟨t174, A26, H⟩ := H
  obtain ⟨y175, hy175⟩ : ∃ y_ : List Int, y_ = (([t163, t174] : List Int)) := ⟨_, rfl⟩
  replace H : ((impl_first.f k y175).bind fun t178 => (if t178 = 0 then ((impl_searchPulses.f l0 a1).bind fun t179 => (some (0, t179))) else (some (t178, ([] : List Int))))) = some (r1, r2) := by first | (rw [hy175]; with_reducible exact H) | (have H2_ := (Option.bind_some _ _).symm.trans H; rw [hy175]; with_reducible exact H2_) | (have H2_ := (Option.bind_some _ _).symm.trans H; with_reducible exact H2_) | with_reducible exact H | (rw [hy175]; exact H) | exact H
  have Ny175 := Aside0.mk hy175
  clear hy175
  replace H := bnd H
  obtain ⟨t178, A27, H⟩ := H
  by_cases c28 : t178 = 0
  ·rw [if_pos c28] at H
   have c28b0 : (t178 == 0) = true := beq_iff_eq.mpr c28
   have c28b1 : (t178 != 0) = false := bne_eq_false_iff_eq.mpr c28
   clear c28
   replace H := bnd H
   obtain ⟨t179, A29, H⟩ := H
   simp only [Option.some.injEq, Prod.mk.injEq] at H
   obtain ⟨rfl, rfl⟩ := H
   go_enter Try.func49, Try.ntmps49
   go_wp2_with (first | ((with_reducible refine gate_dst (N := 4) rfl ?_); refine bev 4 28 #[.int .i64 0, .slice none 0 0] ?_; intro gb161 hg w30 hbox hb; have BK161 := am hbox; have GW161 := gwe hg; have GE161 := gwe hg; replace HB := hbs hb; clear hb hbox hg) | ((with_reducible refine gate_callee (f := 119) rfl ?_); refine gl_ 8 Try.func119 #[.int .i64 (l0.length : Int)] ?_; (with_reducible refine (impl_isDim.calls (l0.length : Int) t162 _ A3.out).mono ?_); rintro e w' ⟨rfl, ⟨nd, rfl⟩⟩; refine ⟨_, rfl, ?_⟩; (try ((repeat rw [World.drewN_drewN w30]); rw [drewN_self w30]; generalize hq_ : World.drewN w30 _ = w30; have n0_ : Aside0 (w30.heap[gb161]? = some (.cells #[.int .i64 0, .slice none 0 0] 28 (0, 0))) := ⟨by rw [← hq_]; exact (bpl BK161.out)⟩; have n1_ : Aside0 (Below w.heap.size w w30) := ⟨by rw [← hq_]; exact bnx⟩; clear BK161 HB hq_; have BK161 := n0_; have HB := n1_; clear n0_ n1_))) | ((with_reducible refine gate_callee (f := 118) rfl ?_); refine gl_ 10 Try.func118 #[.bool (!t162), .int .i64 2] ?_; (with_reducible refine (impl_codeIf.calls (!t162) 2 t163 _ A4.out).mono ?_); rintro e w' ⟨rfl, ⟨nd, rfl⟩⟩; refine ⟨_, rfl, ?_⟩; (try ((repeat rw [World.drewN_drewN w30]); rw [drewN_self w30]; generalize hq_ : World.drewN w30 _ = w30; have n0_ : Aside0 (w30.heap[gb161]? = some (.cells #[.int .i64 0, .slice none 0 0] 28 (0, 0))) := ⟨by rw [← hq_]; exact (bpl BK161.out)⟩; have n1_ : Aside0 (Below w.heap.size w w30) := ⟨by rw [← hq_]; exact bnx⟩; clear BK161 HB hq_; have BK161 := n0_; have HB := n1_; clear n0_ n1_))) | ((with_reducible refine gate_callee (f := 125) rfl ?_); refine gl_ 12 Try.func125 #[.int .i64 a1, .int .i64 1, .int .i64 8] ?_; (with_reducible refine (impl_inRange.calls a1 1 8 false _ A5.out).mono ?_); rintro e w' ⟨rfl, ⟨nd, rfl⟩⟩; refine ⟨_, rfl, ?_⟩; (try ((repeat rw [World.drewN_drewN w30]); rw [drewN_self w30]; generalize hq_ : World.drewN w30 _ = w30; have n0_ : Aside0 (w30.heap[gb161]? = some (.cells #[.int .i64 0, .slice none 0 0] 28 (0, 0))) := ⟨by rw [← hq_]; exact (bpl BK161.out)⟩; have n1_ : Aside0 (Below w.heap.size w w30) := ⟨by rw [← hq_]; exact bnx⟩; clear BK161 HB hq_; have BK161 := n0_; have HB := n1_; clear n0_ n1_))) | ((with_reducible refine gate_callee (f := 118) rfl ?_); refine gl_ 19 Try.func118 #[.bool true, .int .i64 3] ?_; (with_reducible refine (impl_codeIf.calls true 3 t174 _ A26.out).mono ?_); rintro e w' ⟨rfl, ⟨nd, rfl⟩⟩; refine ⟨_, rfl, ?_⟩; (try ((repeat rw [World.drewN_drewN w30]); rw [drewN_self w30]; generalize hq_ : World.drewN w30 _ = w30; have n0_ : Aside0 (w30.heap[gb161]? = some (.cells #[.int .i64 0, .slice none 0 0] 28 (0, 0))) := ⟨by rw [← hq_]; exact (bpl BK161.out)⟩; have n1_ : Aside0 (Below w.heap.size w w30) := ⟨by rw [← hq_]; exact bnx⟩; clear BK161 HB hq_; have BK161 := n0_; have HB := n1_; clear n0_ n1_))) | ((with_reducible refine gate_dst (N := 20) rfl ?_); refine Kd.R_lit (Kd.int .i64) _ 2 ?hg (N := 20) ?hd (xs := ([t163, t174] : List Int)) (inner := [.int .i64 t163, .int .i64 t174]) (ok := fun _ => True) (okp := fun _ => True) ?hr ?hp (fun _ hk => hk) trivial (Below.refl _ _) (Nat.le_refl _) (by simp) ?_; (case hd => rfl); (case hg => rfl); (case hr => first | (go_simp; done) | (go_simp; rfl)); (case hp => exact (Reps.one (show Kd.M (Kd.int .i64) _ _ _ t163 [.int .i64 t163] from rfl) (Reps.one (show Kd.M (Kd.int .i64) _ _ _ t174 [.int .i64 t174] from rfl) (Reps.none _ _)))); intro v176 w31 ho32 hb hg_ hnew_; clear hg_ hnew_; (first | rw [← Ny175.out] at ho32 | (simp only [Int.reduceToNat] at ho32; rw [← Ny175.out] at ho32)); have HO177 := rlw ho32; replace BK161 := bkb BK161 hb; replace HB := hbs hb; clear hb ho32; obtain ⟨Ao33, co33, eo33⟩ := Kd.R_slice HO177.out; subst eo33) | ((with_reducible refine gate_callee (f := 117) rfl ?_); refine gl_ 21 Try.func117 #[.slice Ao33 y175.length co33] ?_; (with_reducible refine (impl_first.calls k _ _ y175 t178 _ ?_ ?_ A27.out).mono ?_); exact crd HO177; exact (Kd.R_reads' HO177.out).2.1; rintro e w' ⟨rfl, ⟨nd, rfl⟩⟩; refine ⟨_, rfl, ?_⟩; (try ((repeat rw [World.drewN_drewN w31]); rw [drewN_self w31]; generalize hq_ : World.drewN w31 _ = w31; have n0_ : Aside0 (Kd.R (Kd.int .i64) 2 w31 w.heap.size (fun _ => True) (.slice Ao33 y175.length co33) y175) := ⟨by rw [← hq_]; exact (rpl HO177.out)⟩; have n1_ : Aside0 (w31.heap[gb161]? = some (.cells #[.int .i64 0, .slice none 0 0] 28 (0, 0))) := ⟨by rw [← hq_]; exact (bpl BK161.out)⟩; have n2_ : Aside0 (Below w.heap.size w w31) := ⟨by rw [← hq_]; exact bnx⟩; clear HO177 BK161 HB hq_; have HO177 := n0_; have BK161 := n1_; have HB := n2_; clear n0_ n1_ n2_))) | ((with_reducible refine gate_callee (f := 130) rfl ?_); refine gl_ 28 Try.func130 #[.slice A0 l0.length c0, .int .i64 a1] ?_; (with_reducible refine (impl_searchPulses.calls _ _ l0 a1 t179 _ ?_ ?_ A29.out).mono ?_); exact cpl HR0.out; exact HC0.out; rintro e w34 ⟨v180, rfl, ho0, hb⟩; refine ⟨_, rfl, ?_⟩; have HO181 := am (Kd.R_lower (Kd.R_new' ho0 (rlt HO177)) bsz); replace HO177 := rel HO177 ho0 hb; replace BK161 := bkb BK161 hb; replace HB := hbs hb; (try clear hb); (try clear ho0); obtain ⟨Ao35, co35, eo35⟩ := Kd.R_slice HO181.out; subst eo35; obtain ⟨hcz36_0, hcz36_1, hfz36_0, hfz36_1⟩ := cf2 (W := w34) BK161.out))
   refine bodyPost_ret (results_cell_row rfl _ _ gb161 28 #[.int .i64 0, .slice Ao35 t179.length co35] (0, 0) _ rfl (by (with_reducible repeat (first | refine blk_drewN ?_ _ | refine blk_drew ?_ | refine blk_alloc ?_ _)); refine blk_put (cs := #[.int .i64 0, .slice none 0 0]) ?_ 1 _ rfl; (with_reducible repeat (first | refine blk_drewN ?_ _ | refine blk_drew ?_ | refine blk_alloc ?_ _)); refine blk_put (cs := #[.int .i64 0, .slice none 0 0]) ?_ 0 _ rfl; exact bpl BK161.out) Try.underlying28 rfl (by kernel_rfl)) rfl ?_
   exact ⟨_, enq, by (with_reducible repeat (first | apply Kd.R_alloc | apply Kd.R_drewN | apply Kd.R_drew)); exact Kd.R_mono (Kd.R_far (p := ⟨gb161, 1, none⟩) (Kd.R_far (p := ⟨gb161, 0, none⟩) (Kd.R_types HO181.out BK161.out (by decide)) (fun _ hk => hk.2) (.int .i64 0)) (fun _ hk => hk.2) (.slice Ao35 t179.length co35)) (fun _ hk => trivial), bnx⟩
  ·rw [if_neg c28] at H
   have c28b0 : (t178 == 0) = false := beq_eq_false_iff_ne.mpr c28
   have c28b1 : (t178 != 0) = true := bne_iff_ne.mpr c28
   simp only [Option.some.injEq, Prod.mk.injEq] at H
   obtain ⟨rfl, rfl⟩ := H
   go_enter Try.func49, Try.ntmps49
   go_wp2_with (first | ((with_reducible refine gate_dst (N := 4) rfl ?_); refine bev 4 28 #[.int .i64 0, .slice none 0 0] ?_; intro gb161 hg w37 hbox hb; have BK161 := am hbox; have GW161 := gwe hg; have GE161 := gwe hg; replace HB := hbs hb; clear hb hbox hg) | ((with_reducible refine gate_callee (f := 119) rfl ?_); refine gl_ 8 Try.func119 #[.int .i64 (l0.length : Int)] ?_; (with_reducible refine (impl_isDim.calls (l0.length : Int) t162 _ A3.out).mono ?_); rintro e w' ⟨rfl, ⟨nd, rfl⟩⟩; refine ⟨_, rfl, ?_⟩; (try ((repeat rw [World.drewN_drewN w37]); rw [drewN_self w37]; generalize hq_ : World.drewN w37 _ = w37; have n0_ : Aside0 (w37.heap[gb161]? = some (.cells #[.int .i64 0, .slice none 0 0] 28 (0, 0))) := ⟨by rw [← hq_]; exact (bpl BK161.out)⟩; have n1_ : Aside0 (Below w.heap.size w w37) := ⟨by rw [← hq_]; exact bnx⟩; clear BK161 HB hq_; have BK161 := n0_; have HB := n1_; clear n0_ n1_))) | ((with_reducible refine gate_callee (f := 118) rfl ?_); refine gl_ 10 Try.func118 #[.bool (!t162), .int .i64 2] ?_; (with_reducible refine (impl_codeIf.calls (!t162) 2 t163 _ A4.out).mono ?_); rintro e w' ⟨rfl, ⟨nd, rfl⟩⟩; refine ⟨_, rfl, ?_⟩; (try ((repeat rw [World.drewN_drewN w37]); rw [drewN_self w37]; generalize hq_ : World.drewN w37 _ = w37; have n0_ : Aside0 (w37.heap[gb161]? = some (.cells #[.int .i64 0, .slice none 0 0] 28 (0, 0))) := ⟨by rw [← hq_]; exact (bpl BK161.out)⟩; have n1_ : Aside0 (Below w.heap.size w w37) := ⟨by rw [← hq_]; exact bnx⟩; clear BK161 HB hq_; have BK161 := n0_; have HB := n1_; clear n0_ n1_))) | ((with_reducible refine gate_callee (f := 125) rfl ?_); refine gl_ 12 Try.func125 #[.int .i64 a1, .int .i64 1, .int .i64 8] ?_; (with_reducible refine (impl_inRange.calls a1 1 8 false _ A5.out).mono ?_); rintro e w' ⟨rfl, ⟨nd, rfl⟩⟩; refine ⟨_, rfl, ?_⟩; (try ((repeat rw [World.drewN_drewN w37]); rw [drewN_self w37]; generalize hq_ : World.drewN w37 _ = w37; have n0_ : Aside0 (w37.heap[gb161]? = some (.cells #[.int .i64 0, .slice none 0 0] 28 (0, 0))) := ⟨by rw [← hq_]; exact (bpl BK161.out)⟩; have n1_ : Aside0 (Below w.heap.size w w37) := ⟨by rw [← hq_]; exact bnx⟩; clear BK161 HB hq_; have BK161 := n0_; have HB := n1_; clear n0_ n1_))) | ((with_reducible refine gate_callee (f := 118) rfl ?_); refine gl_ 19 Try.func118 #[.bool true, .int .i64 3] ?_; (with_reducible refine (impl_codeIf.calls true 3 t174 _ A26.out).mono ?_); rintro e w' ⟨rfl, ⟨nd, rfl⟩⟩; refine ⟨_, rfl, ?_⟩; (try ((repeat rw [World.drewN_drewN w37]); rw [drewN_self w37]; generalize hq_ : World.drewN w37 _ = w37; have n0_ : Aside0 (w37.heap[gb161]? = some (.cells #[.int .i64 0, .slice none 0 0] 28 (0, 0))) := ⟨by rw [← hq_]; exact (bpl BK161.out)⟩; have n1_ : Aside0 (Below w.heap.size w w37) := ⟨by rw [← hq_]; exact bnx⟩; clear BK161 HB hq_; have BK161 := n0_; have HB := n1_; clear n0_ n1_))) | ((with_reducible refine gate_dst (N := 20) rfl ?_); refine Kd.R_lit (Kd.int .i64) _ 2 ?hg (N := 20) ?hd (xs := ([t163, t174] : List Int)) (inner := [.int .i64 t163, .int .i64 t174]) (ok := fun _ => True) (okp := fun _ => True) ?hr ?hp (fun _ hk => hk) trivial (Below.refl _ _) (Nat.le_refl _) (by simp) ?_; (case hd => rfl); (case hg => rfl); (case hr => first | (go_simp; done) | (go_simp; rfl)); (case hp => exact (Reps.one (show Kd.M (Kd.int .i64) _ _ _ t163 [.int .i64 t163] from rfl) (Reps.one (show Kd.M (Kd.int .i64) _ _ _ t174 [.int .i64 t174] from rfl) (Reps.none _ _)))); intro v176 w38 ho39 hb hg_ hnew_; clear hg_ hnew_; (first | rw [← Ny175.out] at ho39 | (simp only [Int.reduceToNat] at ho39; rw [← Ny175.out] at ho39)); have HO177 := rlw ho39; replace BK161 := bkb BK161 hb; replace HB := hbs hb; clear hb ho39; obtain ⟨Ao40, co40, eo40⟩ := Kd.R_slice HO177.out; subst eo40) | ((with_reducible refine gate_callee (f := 117) rfl ?_); refine gl_ 21 Try.func117 #[.slice Ao40 y175.length co40] ?_; (with_reducible refine (impl_first.calls k _ _ y175 t178 _ ?_ ?_ A27.out).mono ?_); exact crd HO177; exact (Kd.R_reads' HO177.out).2.1; rintro e w' ⟨rfl, ⟨nd, rfl⟩⟩; refine ⟨_, rfl, ?_⟩; (try ((repeat rw [World.drewN_drewN w38]); rw [drewN_self w38]; generalize hq_ : World.drewN w38 _ = w38; have n0_ : Aside0 (Kd.R (Kd.int .i64) 2 w38 w.heap.size (fun _ => True) (.slice Ao40 y175.length co40) y175) := ⟨by rw [← hq_]; exact (rpl HO177.out)⟩; have n1_ : Aside0 (w38.heap[gb161]? = some (.cells #[.int .i64 0, .slice none 0 0] 28 (0, 0))) := ⟨by rw [← hq_]; exact (bpl BK161.out)⟩; have n2_ : Aside0 (Below w.heap.size w w38) := ⟨by rw [← hq_]; exact bnx⟩; clear HO177 BK161 HB hq_; have HO177 := n0_; have BK161 := n1_; have HB := n2_; clear n0_ n1_ n2_)); obtain ⟨hcz41_0, hcz41_1, hfz41_0, hfz41_1⟩ := cf2 (W := w38) BK161.out))
   refine bodyPost_ret (results_cell_row rfl _ _ gb161 28 #[.int .i64 t178, .slice none 0 0] (0, 0) _ rfl (by (with_reducible repeat (first | refine blk_drewN ?_ _ | refine blk_drew ?_ | refine blk_alloc ?_ _)); refine blk_put (cs := #[.int .i64 t178, .slice none 0 0]) ?_ 1 _ rfl; (with_reducible repeat (first | refine blk_drewN ?_ _ | refine blk_drew ?_ | refine blk_alloc ?_ _)); refine blk_put (cs := #[.int .i64 0, .slice none 0 0]) ?_ 0 _ rfl; exact bpl BK161.out) Try.underlying28 rfl (by kernel_rfl)) rfl ?_
   exact ⟨_, enq, by first | exact Kd.R_nil _ _ _ _ _ | exact Kd.N_nil _ _ _ _ _ | exact Kd.V_nil _ _ _ _ _ | exact Kd.Q_nil _ _ _ _ _ | exact Kd.S_nil _ _ _ _ _, bnx⟩

/-! ### laws_FnExactSearchPulses: function 8 -/
def laws_FnExactSearchPulses.j0 : Nat → List Int → Int → Bool → Int → List Int → Int → List Int → Option (Bool)
 | 0, _, _, _, _, _, _, _ => none
 | k + 1, x0, x1, x43, x190000, x190001, x198000, x198001 => if x43 = true then (none) else ((laws_markIntsResult.f k x198000 x198001 1).bind fun bt206 => ((laws_heldIntsResult.f k x198000 bt206.2 1).bind fun t208 => (if t208 < 0 then (none) else (if t208 = bt206.1 then ((laws_toInt64S.f k x0).bind fun t209 => ((impl_SearchPulses.f k t209 x1).bind fun bt212 => ((laws_eqIntsResult.f k bt212.1 bt212.2 x190000 x190001).bind fun t217 => (if t217 = true then ((laws_heldIntsResult.f k x198000 bt206.2 1).bind fun t218 => (if t218 < 0 then (none) else (if t218 = bt206.1 then (some true) else (none)))) else (none))))) else (none)))))
def laws_FnExactSearchPulses.f (k : Nat) (l0 : List Int) (a1 : Int) : Option (Bool) := if (l0.length : Int) > 1048576 then (some true) else ((laws_toInt64S.f k l0).bind fun t182 => ((spec_SearchPulses.f k t182 a1).bind fun bt185 => ((laws_toInt64S.f k l0).bind fun t190 => ((impl_SearchPulses.f k t190 a1).bind fun bt193 => ((laws_eqIntsResult.f k bt193.1 bt193.2 bt185.1 bt185.2).bind fun t198 => (if t198 = true then ((laws_toInt64S.f k l0).bind fun t199 => ((laws_eqInt64S.f k t190 t199).bind fun t202 => (if t202 = true then ((laws_markInt64S.f k t190 1).bind fun bt203 => (if bt203.1 < 0 then (none) else ((laws_eqIntsResult.f k bt193.1 bt193.2 bt185.1 bt185.2).bind fun t205 => (laws_FnExactSearchPulses.j0 k l0 a1 (!t205) bt185.1 bt185.2 bt193.1 bt193.2)))) else (none)))) else (none)))))))
theorem laws_FnExactSearchPulses.mono_l : ∀ k, (∀ y0 y1 y2 y3 y4 y5 y6, LeO (laws_FnExactSearchPulses.j0 k y0 y1 y2 y3 y4 y5 y6) (laws_FnExactSearchPulses.j0 (k + 1) y0 y1 y2 y3 y4 y5 y6))
 | 0 => fun _ _ _ _ _ _ _ r h => by simp [laws_FnExactSearchPulses.j0] at h
 | k + 1 => by
  have ih0 := laws_FnExactSearchPulses.mono_l k
  ·intro y0 y1 y2 y3 y4 y5 y6
   unfold laws_FnExactSearchPulses.j0
   repeat' first
   | (with_reducible exact ih0 _ _ _ _ _ _ _)
   | (with_reducible exact impl_SearchPulses.mono _ _ _)
   | (with_reducible exact laws_eqInt64S.mono _ _ _)
   | (with_reducible exact laws_eqIntsResult.mono _ _ _ _ _)
   | (with_reducible exact laws_heldIntsResult.mono _ _ _ _)
   | (with_reducible exact laws_markInt64S.mono _ _ _)
   | (with_reducible exact laws_markIntsResult.mono _ _ _ _)
   | (with_reducible exact laws_toInt64S.mono _ _)
   | (with_reducible exact spec_SearchPulses.mono _ _ _)
   | (with_reducible exact LeO.refl _)
   | (with_reducible exact LeO.none _)
   | (with_reducible refine LeO.ite ?_ ?_)
   | (with_reducible refine LeO.bind ?_ (fun _ => ?_))
   | exact ih0 _ _ _ _ _ _ _
   | exact impl_SearchPulses.mono _ _ _
   | exact laws_eqInt64S.mono _ _ _
   | exact laws_eqIntsResult.mono _ _ _ _ _
   | exact laws_heldIntsResult.mono _ _ _ _
   | exact laws_markInt64S.mono _ _ _
   | exact laws_markIntsResult.mono _ _ _ _
   | exact laws_toInt64S.mono _ _
   | exact spec_SearchPulses.mono _ _ _
   | exact LeO.none _
   | refine LeO.ite ?_ ?_
   | refine LeO.bind ?_ (fun _ => ?_)
theorem laws_FnExactSearchPulses.mono : ∀ a0 a1 k, LeO (laws_FnExactSearchPulses.f k a0 a1) (laws_FnExactSearchPulses.f (k + 1) a0 a1) := by
 intro a0 a1 k
 have ih0 := laws_FnExactSearchPulses.mono_l k
 unfold laws_FnExactSearchPulses.f
 repeat' first
   | (with_reducible exact ih0 _ _ _ _ _ _ _)
   | (with_reducible exact impl_SearchPulses.mono _ _ _)
   | (with_reducible exact laws_eqInt64S.mono _ _ _)
   | (with_reducible exact laws_eqIntsResult.mono _ _ _ _ _)
   | (with_reducible exact laws_heldIntsResult.mono _ _ _ _)
   | (with_reducible exact laws_markInt64S.mono _ _ _)
   | (with_reducible exact laws_markIntsResult.mono _ _ _ _)
   | (with_reducible exact laws_toInt64S.mono _ _)
   | (with_reducible exact spec_SearchPulses.mono _ _ _)
   | (with_reducible exact LeO.refl _)
   | (with_reducible exact LeO.none _)
   | (with_reducible refine LeO.ite ?_ ?_)
   | (with_reducible refine LeO.bind ?_ (fun _ => ?_))
   | exact ih0 _ _ _ _ _ _ _
   | exact impl_SearchPulses.mono _ _ _
   | exact laws_eqInt64S.mono _ _ _
   | exact laws_eqIntsResult.mono _ _ _ _ _
   | exact laws_heldIntsResult.mono _ _ _ _
   | exact laws_markInt64S.mono _ _ _
   | exact laws_markIntsResult.mono _ _ _ _
   | exact laws_toInt64S.mono _ _
   | exact spec_SearchPulses.mono _ _ _
   | exact LeO.none _
   | refine LeO.ite ?_ ?_
   | refine LeO.bind ?_ (fun _ => ?_)
set_option maxHeartbeats 8000000 in
set_option maxRecDepth 100000 in
theorem laws_FnExactSearchPulses.calls (k : Nat) (A0 : Option Addr) (c0 : Nat) (l0 : List Int) (a1 : Int) (r : Bool) (w : World) (hr0 : Kd.C (Kd.int .i64) w A0 l0.length l0) (hc0 : l0.length ≤ c0) (h : laws_FnExactSearchPulses.f k l0 a1 = some r) :
  Calls Try.prog 8 #[.slice A0 l0.length c0, .int .i64 a1] w fun e w' => e = .returned (.bool r) ∧ Below w.heap.size w w' := by
 have hu28 := Try.underlying28
 have HR0 := Aside0.mk hr0
 have HC0 := Aside0.mk hc0
 clear hr0 hc0
 have HB := Aside0.mk (Below.refl w.heap.size w)
 have H : (if (l0.length : Int) > 1048576 then (some true) else ((laws_toInt64S.f k l0).bind fun t182 => ((spec_SearchPulses.f k t182 a1).bind fun bt185 => ((laws_toInt64S.f k l0).bind fun t190 => ((impl_SearchPulses.f k t190 a1).bind fun bt193 => ((laws_eqIntsResult.f k bt193.1 bt193.2 bt185.1 bt185.2).bind fun t198 => (if t198 = true then ((laws_toInt64S.f k l0).bind fun t199 => ((laws_eqInt64S.f k t190 t199).bind fun t202 => (if t202 = true then ((laws_markInt64S.f k t190 1).bind fun bt203 => (if bt203.1 < 0 then (none) else ((laws_eqIntsResult.f k bt193.1 bt193.2 bt185.1 bt185.2).bind fun t205 => (laws_FnExactSearchPulses.j0 k l0 a1 (!t205) bt185.1 bt185.2 bt193.1 bt193.2)))) else (none)))) else (none)))))))) = some r := h
 clear h
 by_cases c3 : (l0.length : Int) > 1048576
 ·rw [if_pos c3] at H
  have c3b0 : decide (1048576 < (l0.length : Int)) = true := decide_eq_true c3
  have c3b1 : decide (1048576 < l0.length) = true := decide_eq_true (by omega)
  clear c3
  obtain rfl := Option.some.inj H
  go_enter Try.func8, Try.ntmps8
  go_wp2
  go_ret
  exact ⟨enq, bnw⟩
 ·rw [if_neg c3] at H
  have c3b0 : decide (1048576 < (l0.length : Int)) = false := decide_eq_false c3
  have c3b1 : decide (1048576 < l0.length) = false := decide_eq_false (by omega)
  clear c3
  replace H := bnd H
  obtain ⟨t182, A4, H⟩ := H
  replace H := bnd H
  obtain ⟨⟨t185, t186⟩, A5, H⟩ := H
  replace H : ((laws_toInt64S.f k l0).bind fun t190 => ((impl_SearchPulses.f k t190 a1).bind fun bt193 => ((laws_eqIntsResult.f k bt193.1 bt193.2 t185 t186).bind fun t198 => (if t198 = true then ((laws_toInt64S.f k l0).bind fun t199 => ((laws_eqInt64S.f k t190 t199).bind fun t202 => (if t202 = true then ((laws_markInt64S.f k t190 1).bind fun bt203 => (if bt203.1 < 0 then (none) else ((laws_eqIntsResult.f k bt193.1 bt193.2 t185 t186).bind fun t205 => (laws_FnExactSearchPulses.j0 k l0 a1 (!t205) t185 t186 bt193.1 bt193.2)))) else (none)))) else (none))))) = some r := H
  replace H := bnd H
  obtain ⟨t190, A6, H⟩ := H
  replace H := bnd H
  obtain ⟨⟨t193, t194⟩, A7, H⟩ := H
  replace H : ((laws_eqIntsResult.f k t193 t194 t185 t186).bind fun t198 => (if t198 = true then ((laws_toInt64S.f k l0).bind fun t199 => ((laws_eqInt64S.f k t190 t199).bind fun t202 => (if t202 = true then ((laws_markInt64S.f k t190 1).bind fun bt203 => (if bt203.1 < 0 then (none) else ((laws_eqIntsResult.f k t193 t194 t185 t186).bind fun t205 => (laws_FnExactSearchPulses.j0 k l0 a1 (!t205) t185 t186 t193 t194)))) else (none)))) else (none))) = some r := H
  replace H := bnd H
  obtain ⟨t198, A8, H⟩ := H
  by_cases c9 : t198 = true
  ·subst c9
   replace H : ((laws_toInt64S.f k l0).bind fun t199 => ((laws_eqInt64S.f k t190 t199).bind fun t202 => (if t202 = true then ((laws_markInt64S.f k t190 1).bind fun bt203 => (if bt203.1 < 0 then (none) else ((laws_eqIntsResult.f k t193 t194 t185 t186).bind fun t205 => (laws_FnExactSearchPulses.j0 k l0 a1 (!t205) t185 t186 t193 t194)))) else (none)))) = some r := by rw [if_pos rfl] at H; exact H
   replace H := bnd H
   obtain ⟨t199, A10, H⟩ := H
   replace H := bnd H
   obtain ⟨t202, A11, H⟩ := H
   by_cases c12 : t202 = true
   ·subst c12
    replace H : ((laws_markInt64S.f k t190 1).bind fun bt203 => (if bt203.1 < 0 then (none) else ((laws_eqIntsResult.f k t193 t194 t185 t186).bind fun t205 => (laws_FnExactSearchPulses.j0 k l0 a1 (!t205) t185 t186 t193 t194)))) = some r := by rw [if_pos rfl] at H; exact H
    replace H := bnd H
    obtain ⟨⟨t203, t204⟩, A13, H⟩ := H
    replace H : (if t203 < 0 then (none) else ((laws_eqIntsResult.f k t193 t194 t185 t186).bind fun t205 => (laws_FnExactSearchPulses.j0 k l0 a1 (!t205) t185 t186 t193 t194))) = some r := H
    have HC14 := Aside0.mk H
    clear H
    go_enter Try.func8, Try.ntmps8
    go_upto_region 12 with (first | ((with_reducible refine gate_callee (f := 25) rfl ?_); refine gl_ 16 Try.func25 #[.slice A0 l0.length c0] ?_; (with_reducible refine (laws_toInt64S.calls k _ _ l0 t182 _ ?side1 ?side2 A4.out).mono ?_); (case side1 => repeat (first | exact HR0.out | (with_reducible refine Kd.C_alloc ?_ _) | (with_reducible refine Kd.C_drewN ?_ _) | (with_reducible refine Kd.C_drew ?_))); (case side2 => exact HC0.out); rintro e w15 ⟨v183, rfl, ho0, hb⟩; refine ⟨_, rfl, ?_⟩; have HO184 := rlw ho0; replace HB := hbs hb; (try clear hb); (try clear ho0); obtain ⟨Ao16, co16, eo16⟩ := Kd.R_slice HO184.out; subst eo16) | ((with_reducible refine gate_callee (f := 48) rfl ?_); refine gl_ 18 Try.func48 #[.slice Ao16 t182.length co16, .int .i64 a1] ?_; (with_reducible refine (spec_SearchPulses.calls k _ _ t182 a1 t185 t186 _ ?_ ?_ A5.out).mono ?_); exact crd HO184; exact (Kd.R_reads' HO184.out).2.1; rintro e w17 ⟨v187, rfl, ho0, hb⟩; refine ⟨_, rfl, ?_⟩; have HO188 := am (Kd.R_lower (Kd.R_new' ho0 (rlt HO184)) bsz); replace HO184 := rel HO184 ho0 hb; replace HB := hbs hb; (try clear hb); (try clear ho0)) | ((with_reducible refine gate_dst (N := 5) rfl ?_); refine bev 5 28 #[.int .i64 0, .slice none 0 0] ?_; intro gb189 hg w18 hbox hb; replace HO184 := rbl HO184 hb; replace HO188 := rbl HO188 hb; have BK189 := am hbox; have GW189 := gwe hg; have GE189 := gwe hg; replace HB := hbs hb; clear hb hbox hg; obtain ⟨hcz19_0, hcz19_1, hfz19_0, hfz19_1⟩ := cf2 (W := w18) BK189.out; obtain ⟨Ao20, co20, eo20⟩ := Kd.R_slice HO188.out; subst eo20) | ((with_reducible refine gate_callee (f := 25) rfl ?_); refine gl_ 20 Try.func25 #[.slice A0 l0.length c0] ?_; (with_reducible refine (laws_toInt64S.calls k _ _ l0 t190 _ ?_ ?_ A6.out).mono ?_); exact Kd.C_below HR0.out bnx; exact HC0.out; rintro e w21 ⟨v191, rfl, ho0, hb⟩; refine ⟨_, rfl, ?_⟩; have HO192 := am (Kd.R_lower (Kd.R_new' (Kd.R_new' ho0 (Kd.R_lt (by (with_reducible repeat (first | apply Kd.R_alloc | apply Kd.R_drewN | apply Kd.R_drew)); exact (Kd.R_mono (Kd.R_far (p := ⟨gb189, 1, none⟩) (Kd.R_far (p := ⟨gb189, 0, none⟩) (Kd.R_types HO184.out BK189.out (by decide)) (fun _ hk => hk.2) (.int .i64 t185)) (fun _ hk => hk.2) (.slice Ao20 t186.length co20)) (fun _ h_ => h_.1))))) (Kd.R_lt (by (with_reducible repeat (first | apply Kd.R_alloc | apply Kd.R_drewN | apply Kd.R_drew)); exact (Kd.R_mono (Kd.R_far (p := ⟨gb189, 1, none⟩) (Kd.R_far (p := ⟨gb189, 0, none⟩) (Kd.R_types HO188.out BK189.out (by decide)) (fun _ hk => hk.2) (.int .i64 t185)) (fun _ hk => hk.2) (.slice Ao20 t186.length co20)) (fun _ h_ => h_.1))))) bsz); replace HO184 := am (Kd.R_elder' (by (with_reducible repeat (first | apply Kd.R_alloc | apply Kd.R_drewN | apply Kd.R_drew)); exact (Kd.R_mono (Kd.R_far (p := ⟨gb189, 1, none⟩) (Kd.R_far (p := ⟨gb189, 0, none⟩) (Kd.R_types HO184.out BK189.out (by decide)) (fun _ hk => hk.2) (.int .i64 t185)) (fun _ hk => hk.2) (.slice Ao20 t186.length co20)) (fun _ h_ => h_.1))) (Kd.R_base ho0) hb); replace HO188 := am (Kd.R_elder' (by (with_reducible repeat (first | apply Kd.R_alloc | apply Kd.R_drewN | apply Kd.R_drew)); exact (Kd.R_mono (Kd.R_far (p := ⟨gb189, 1, none⟩) (Kd.R_far (p := ⟨gb189, 0, none⟩) (Kd.R_types HO188.out BK189.out (by decide)) (fun _ hk => hk.2) (.int .i64 t185)) (fun _ hk => hk.2) (.slice Ao20 t186.length co20)) (fun _ h_ => h_.1))) (Kd.R_base ho0) hb); replace BK189 := am (blk_below (g := gb189) (o := .cells #[.int .i64 t185, .slice Ao20 t186.length co20] 28 (0, 0)) (by (with_reducible repeat (first | refine blk_drewN ?_ _ | refine blk_drew ?_ | refine blk_alloc ?_ _)); refine blk_put (cs := #[.int .i64 t185, .slice none 0 0]) ?_ 1 _ rfl; (with_reducible repeat (first | refine blk_drewN ?_ _ | refine blk_drew ?_ | refine blk_alloc ?_ _)); refine blk_put (cs := #[.int .i64 0, .slice none 0 0]) ?_ 0 _ rfl; exact bpl BK189.out) hb); replace HB := hbs hb; (try clear hb); (try clear ho0); obtain ⟨Ao22, co22, eo22⟩ := Kd.R_slice HO192.out; subst eo22) | ((with_reducible refine gate_callee (f := 49) rfl ?_); refine gl_ 23 Try.func49 #[.slice Ao22 t190.length co22, .int .i64 a1] ?_; (with_reducible refine (impl_SearchPulses.calls k _ _ t190 a1 t193 t194 _ ?_ ?_ A7.out).mono ?_); exact crd HO192; exact (Kd.R_reads' HO192.out).2.1; rintro e w23 ⟨v195, rfl, ho0, hb⟩; refine ⟨_, rfl, ?_⟩; have HO196 := am (Kd.R_lower (Kd.R_new' (Kd.R_new' (Kd.R_new' ho0 (rlt HO184)) (rlt HO188)) (rlt HO192)) bsz); replace HO184 := rel HO184 ho0 hb; replace HO188 := rel HO188 ho0 hb; replace HO192 := rel HO192 ho0 hb; replace BK189 := bkb BK189 hb; replace HB := hbs hb; (try clear hb); (try clear ho0)) | ((with_reducible refine gate_dst (N := 7) rfl ?_); refine bev 7 28 #[.int .i64 0, .slice none 0 0] ?_; intro gb197 hg w24 hbox hb; replace HO184 := rbl HO184 hb; replace HO188 := rbl HO188 hb; replace HO192 := rbl HO192 hb; replace HO196 := rbl HO196 hb; have BK197 := am hbox; have GW197 := gwe hg; have GE197 := gwe hg; replace HB := hbs hb; have NB189_197 := nbl hg BK189; have NB197_189 := nbg hg BK189; replace BK189 := bkb BK189 hb; clear hb hbox hg; have hnb25 := NB197_189.out; have hnc25 := NB189_197.out; obtain ⟨hcz26_0, hcz26_1, hfz26_0, hfz26_1⟩ := cf2 (W := w24) BK197.out; obtain ⟨Ao27, co27, eo27⟩ := Kd.R_slice HO196.out; subst eo27; obtain ⟨hcz28_0, hcz28_1, hfz28_0, hfz28_1⟩ := cf2 (W := w24) BK189.out) | ((with_reducible refine gate_callee (f := 27) rfl ?_); refine gl_ 26 Try.func27 #[.agg #[.int .i64 t193, .slice Ao27 t194.length co27], .agg #[.int .i64 t185, .slice Ao20 t186.length co20]] ?_; (with_reducible refine (laws_eqIntsResult.calls k t193 _ _ t194 t185 _ _ t186 true _ ?side1 ?side2 ?side3 ?side4 A8.out).mono ?_); (case side1 => refine (Kd.R_reads' (e := 2) (base := w.heap.size) (ok := fun k_ => (((True ∧ some k_ ≠ (.slice Ao16 t182.length co16 : Value).ownBlock) ∧ some k_ ≠ (.slice Ao20 t186.length co20 : Value).ownBlock) ∧ some k_ ≠ (.slice Ao22 t190.length co22 : Value).ownBlock)) (n := t194.length) (c := co27) ?_).2.2; exact (by (with_reducible repeat (first | apply Kd.R_alloc | apply Kd.R_drewN | apply Kd.R_drew)); exact (Kd.R_mono (Kd.R_far (p := ⟨gb197, 1, none⟩) (Kd.R_far (p := ⟨gb197, 0, none⟩) (Kd.R_types HO196.out BK197.out (by decide)) (fun _ hk => hk.2) (.int .i64 t193)) (fun _ hk => hk.2) (.slice Ao27 t194.length co27)) (fun _ h_ => h_.1)))); (case side2 => exact (Kd.R_reads' HO196.out).2.1); (case side3 => refine (Kd.R_reads' (e := 2) (base := w.heap.size) (ok := fun k_ => (((True ∧ some k_ ≠ (.slice Ao16 t182.length co16 : Value).ownBlock) ∧ some k_ ≠ (.slice Ao22 t190.length co22 : Value).ownBlock) ∧ some k_ ≠ (.slice Ao27 t194.length co27 : Value).ownBlock)) (n := t186.length) (c := co20) ?_).2.2; exact (by (with_reducible repeat (first | apply Kd.R_alloc | apply Kd.R_drewN | apply Kd.R_drew)); exact (Kd.R_mono (Kd.R_far (p := ⟨gb197, 1, none⟩) (Kd.R_far (p := ⟨gb197, 0, none⟩) (Kd.R_types HO188.out BK197.out (by decide)) (fun _ hk => hk.2) (.int .i64 t193)) (fun _ hk => hk.2) (.slice Ao27 t194.length co27)) (fun _ h_ => h_.1)))); (case side4 => exact (Kd.R_reads' HO188.out).2.1); rintro e w29 ⟨rfl, hb⟩; refine ⟨_, rfl, ?_⟩; replace HO184 := am (Kd.R_below (by (with_reducible repeat (first | apply Kd.R_alloc | apply Kd.R_drewN | apply Kd.R_drew)); exact (Kd.R_mono (Kd.R_far (p := ⟨gb197, 1, none⟩) (Kd.R_far (p := ⟨gb197, 0, none⟩) (Kd.R_types HO184.out BK197.out (by decide)) (fun _ hk => hk.2) (.int .i64 t193)) (fun _ hk => hk.2) (.slice Ao27 t194.length co27)) (fun _ h_ => h_.1))) hb); replace HO188 := am (Kd.R_below (by (with_reducible repeat (first | apply Kd.R_alloc | apply Kd.R_drewN | apply Kd.R_drew)); exact (Kd.R_mono (Kd.R_far (p := ⟨gb197, 1, none⟩) (Kd.R_far (p := ⟨gb197, 0, none⟩) (Kd.R_types HO188.out BK197.out (by decide)) (fun _ hk => hk.2) (.int .i64 t193)) (fun _ hk => hk.2) (.slice Ao27 t194.length co27)) (fun _ h_ => h_.1))) hb); replace HO192 := am (Kd.R_below (by (with_reducible repeat (first | apply Kd.R_alloc | apply Kd.R_drewN | apply Kd.R_drew)); exact (Kd.R_mono (Kd.R_far (p := ⟨gb197, 1, none⟩) (Kd.R_far (p := ⟨gb197, 0, none⟩) (Kd.R_types HO192.out BK197.out (by decide)) (fun _ hk => hk.2) (.int .i64 t193)) (fun _ hk => hk.2) (.slice Ao27 t194.length co27)) (fun _ h_ => h_.1))) hb); replace HO196 := am (Kd.R_below (by (with_reducible repeat (first | apply Kd.R_alloc | apply Kd.R_drewN | apply Kd.R_drew)); exact (Kd.R_mono (Kd.R_far (p := ⟨gb197, 1, none⟩) (Kd.R_far (p := ⟨gb197, 0, none⟩) (Kd.R_types HO196.out BK197.out (by decide)) (fun _ hk => hk.2) (.int .i64 t193)) (fun _ hk => hk.2) (.slice Ao27 t194.length co27)) (fun _ h_ => h_.1))) hb); replace BK189 := am (blk_below (g := gb189) (o := .cells #[.int .i64 t185, .slice Ao20 t186.length co20] 28 (0, 0)) (by (with_reducible repeat (first | refine blk_drewN ?_ _ | refine blk_drew ?_ | refine blk_alloc ?_ _)); refine blk_far ?_ NB189_197.out _; (with_reducible repeat (first | refine blk_drewN ?_ _ | refine blk_drew ?_ | refine blk_alloc ?_ _)); refine blk_far ?_ NB189_197.out _; (with_reducible repeat (first | refine blk_drewN ?_ _ | refine blk_drew ?_ | refine blk_alloc ?_ _)); exact BK189.out) hb); replace BK197 := am (blk_below (g := gb197) (o := .cells #[.int .i64 t193, .slice Ao27 t194.length co27] 28 (0, 0)) (by (with_reducible repeat (first | refine blk_drewN ?_ _ | refine blk_drew ?_ | refine blk_alloc ?_ _)); refine blk_put (cs := #[.int .i64 t193, .slice none 0 0]) ?_ 1 _ rfl; (with_reducible repeat (first | refine blk_drewN ?_ _ | refine blk_drew ?_ | refine blk_alloc ?_ _)); refine blk_put (cs := #[.int .i64 0, .slice none 0 0]) ?_ 0 _ rfl; exact bpl BK197.out) hb); replace HB := hbs hb; (try clear hb)) | ((with_reducible refine gate_callee (f := 25) rfl ?_); refine gl_ 30 Try.func25 #[.slice A0 l0.length c0] ?_; (with_reducible refine (laws_toInt64S.calls k _ _ l0 t199 _ ?_ ?_ A10.out).mono ?_); exact cpl HR0.out; exact HC0.out; rintro e w30 ⟨v200, rfl, ho0, hb⟩; refine ⟨_, rfl, ?_⟩; have HO201 := am (Kd.R_lower (Kd.R_new' (Kd.R_new' (Kd.R_new' (Kd.R_new' ho0 (rlt HO184)) (rlt HO188)) (rlt HO192)) (rlt HO196)) bsz); replace HO184 := rel HO184 ho0 hb; replace HO188 := rel HO188 ho0 hb; replace HO192 := rel HO192 ho0 hb; replace HO196 := rel HO196 ho0 hb; replace BK189 := bkb BK189 hb; replace BK197 := bkb BK197 hb; replace HB := hbs hb; (try clear hb); (try clear ho0); obtain ⟨Ao31, co31, eo31⟩ := Kd.R_slice HO201.out; subst eo31) | ((with_reducible refine gate_callee (f := 28) rfl ?_); refine gl_ 31 Try.func28 #[.slice Ao22 t190.length co22, .slice Ao31 t199.length co31] ?_; (with_reducible refine (laws_eqInt64S.calls k _ _ t190 _ _ t199 true _ ?_ ?_ ?_ ?_ A11.out).mono ?_); exact crd HO192; exact (Kd.R_reads' HO192.out).2.1; exact crd HO201; exact (Kd.R_reads' HO201.out).2.1; rintro e w' ⟨rfl, ⟨nd, rfl⟩⟩; refine ⟨_, rfl, ?_⟩) | ((with_reducible refine gate_callee (f := 29) rfl ?_); refine gl_ 35 Try.func29 #[.slice Ao22 t190.length co22, .int .i64 1] ?_; (with_reducible refine (laws_markInt64S.calls k (fun k_ => some k_ = (.slice Ao22 t190.length co22 : Value).ownBlock) (.slice Ao22 t190.length co22) t190 1 t203 t204 w _ ?_ ?_ A13.out).mono ?_); exact bnx; exact Kd.R_tight rfl HO192.out; rintro e w32 ⟨rfl, hy0, hb, hkp⟩; refine ⟨_, rfl, ?_⟩; replace HO184 := am (Kd.R_mono (ok' := fun k_ => some k_ ≠ (.slice Ao20 t186.length co20 : Value).ownBlock ∧ some k_ ≠ (.slice Ao22 t190.length co22 : Value).ownBlock ∧ some k_ ≠ (.slice Ao27 t194.length co27 : Value).ownBlock ∧ some k_ ≠ (.slice Ao31 t199.length co31 : Value).ownBlock) (Kd.R_keptB (HO184.out) hkp (fun k_ hk_ hs_ => (hk_.1.1.2) hs_)) (fun k_ hk_ => ⟨hk_.1.1.1.1.2, hk_.1.1.1.2, hk_.1.1.2, hk_.1.2⟩)); replace HO188 := am (Kd.R_mono (ok' := fun k_ => some k_ ≠ (.slice Ao16 t182.length co16 : Value).ownBlock ∧ some k_ ≠ (.slice Ao22 t190.length co22 : Value).ownBlock ∧ some k_ ≠ (.slice Ao27 t194.length co27 : Value).ownBlock ∧ some k_ ≠ (.slice Ao31 t199.length co31 : Value).ownBlock) (Kd.R_keptB (HO188.out) hkp (fun k_ hk_ hs_ => (hk_.1.1.2) hs_)) (fun k_ hk_ => ⟨hk_.1.1.1.1.2, hk_.1.1.1.2, hk_.1.1.2, hk_.1.2⟩)); replace BK189 := am (blk_kept (bpl BK189.out) hkp (fun hs_ => (fun e_ => (Kd.R_ne HO192.out BK189.out (by decide)) e_) hs_)); replace HO196 := am (Kd.R_mono (ok' := fun k_ => some k_ ≠ (.slice Ao16 t182.length co16 : Value).ownBlock ∧ some k_ ≠ (.slice Ao20 t186.length co20 : Value).ownBlock ∧ some k_ ≠ (.slice Ao22 t190.length co22 : Value).ownBlock ∧ some k_ ≠ (.slice Ao31 t199.length co31 : Value).ownBlock) (Kd.R_keptB (HO196.out) hkp (fun k_ hk_ hs_ => (hk_.1.2) hs_)) (fun k_ hk_ => ⟨hk_.1.1.1.1.2, hk_.1.1.1.2, hk_.1.1.2, hk_.1.2⟩)); replace BK197 := am (blk_kept (bpl BK197.out) hkp (fun hs_ => (fun e_ => (Kd.R_ne HO192.out BK197.out (by decide)) e_) hs_)); replace HO192 := am (Kd.R_reok rfl hy0 (fun k_ e_ => HO192.out.1 k_ e_)); replace HO201 := am (Kd.R_mono (ok' := fun k_ => some k_ ≠ (.slice Ao16 t182.length co16 : Value).ownBlock ∧ some k_ ≠ (.slice Ao20 t186.length co20 : Value).ownBlock ∧ some k_ ≠ (.slice Ao22 t190.length co22 : Value).ownBlock ∧ some k_ ≠ (.slice Ao27 t194.length co27 : Value).ownBlock) (Kd.R_keptB (HO201.out) hkp (fun k_ hk_ hs_ => (hk_.1.2) hs_)) (fun k_ hk_ => ⟨hk_.1.1.1.1.2, hk_.1.1.1.2, hk_.1.1.2, hk_.1.2⟩)); replace HB := am hb; (try clear hb); (try clear hkp); (try clear hy0)))
    (try simp only [Act.put, List.setIfInBounds_toArray, List.set_cons_zero, List.set_cons_succ])
    go_cut [43] (fun v43 wc => ∃ (kq : Nat) (x43_13 : Bool), v43 = .bool x43_13 ∧ Aside0 (laws_FnExactSearchPulses.j0 kq l0 a1 x43_13 t185 t186 t193 t194 = some r) ∧ Aside0 (kq ≤ k) ∧ Aside0 (Kd.R (Kd.int .i64) 2 wc w.heap.size (fun k_ => some k_ ≠ ((.slice Ao27 t194.length co27) : Value).ownBlock) (.slice Ao20 t186.length co20) t186) ∧ Aside0 (Kd.R (Kd.int .i64) 2 wc w.heap.size (fun k_ => some k_ ≠ ((.slice Ao20 t186.length co20) : Value).ownBlock) (.slice Ao27 t194.length co27) t194) ∧ Aside0 (wc.heap[gb189]? = some (.cells #[.int .i64 t185, (.slice Ao20 t186.length co20)] 28 (0, 0))) ∧ Aside0 (wc.heap[gb197]? = some (.cells #[.int .i64 t193, (.slice Ao27 t194.length co27)] 28 (0, 0))) ∧ Aside0 (Below w.heap.size w wc))
    case first =>
     have H := HC14.out
     clear HC14
     by_cases c33 : t203 < 0
     ·rw [if_pos c33] at H
      exact absurd H (by simp)
     ·rw [if_neg c33] at H
      have c33b0 : decide (t203 < 0) = false := decide_eq_false c33
      clear c33
      (first | rw [c33b0] | (simp only [i64_w, i32_w]; rw [c33b0]) | skip)
      replace H := bnd H
      obtain ⟨t205, A34, H⟩ := H
      have H' := Aside0.mk H
      clear H
      have hnb35 := NB197_189.out
      have hnc35 := NB189_197.out
      obtain ⟨hcz36_0, hcz36_1, hfz36_0, hfz36_1⟩ := cf2 (W := w32) BK197.out
      obtain ⟨hcz37_0, hcz37_1, hfz37_0, hfz37_1⟩ := cf2 (W := w32) BK189.out
      go_wp2_with (first | (go_at_call 27; (with_reducible refine (laws_eqIntsResult.calls k t193 _ _ t194 t185 _ _ t186 t205 _ ?_ ?_ ?_ ?_ A34.out).mono ?_); exact crd HO196; exact (Kd.R_reads' HO196.out).2.1; exact crd HO188; exact (Kd.R_reads' HO188.out).2.1; rintro e w38 ⟨rfl, hb⟩; replace HO184 := rbl HO184 hb; replace HO188 := rbl HO188 hb; replace HO192 := rbl HO192 hb; replace HO196 := rbl HO196 hb; replace HO201 := rbl HO201 hb; replace BK189 := bkb BK189 hb; replace BK197 := bkb BK197 hb; replace HB := hbs hb; (try clear hb)))
      go_meet
      case rel => exact ⟨_, (!t205), rq, H', ⟨by first | omega | exact Nat.le_refl _⟩, ⟨by (with_reducible repeat (first | apply Kd.R_alloc | apply Kd.R_drewN | apply Kd.R_drew)); exact Kd.R_mono HO188.out (fun _ hk => hk.2.2.1)⟩, ⟨by (with_reducible repeat (first | apply Kd.R_alloc | apply Kd.R_drewN | apply Kd.R_drew)); exact Kd.R_mono HO196.out (fun _ hk => hk.2.1)⟩, ⟨bpl BK189.out⟩, ⟨bpl BK197.out⟩, ⟨bnx⟩⟩
    case rest =>
     clear HC14
     try clear c1
     try clear c2
     try clear p2
     try clear c3
     try clear c3b0
     try clear c3b1
     try clear c4
     try clear c8
     try clear c9
     try clear c12
     try clear c25
     try clear c27
     try clear c28
     try clear c29
     try clear c33
     try clear c33b0
     try clear c35
     try clear hcz19_0 hcz19_1
     try clear hcz26_0 hcz26_1
     try clear hcz28_0 hcz28_1
     try clear hcz36_0 hcz36_1
     try clear hcz37_0 hcz37_1
     try clear hfz19_0 hfz19_1
     try clear hfz26_0 hfz26_1
     try clear hfz28_0 hfz28_1
     try clear hfz36_0 hfz36_1
     try clear hfz37_0 hfz37_1
     obtain ⟨kq, x43_13, rfl, HA, HJ13, HO_190001, HO_198001, BK189, BK197, HB⟩ := hcut
     cases kq with
     | zero => exact absurd HA.out (by simp [laws_FnExactSearchPulses.j0])
     | succ kj13 =>
      have H := HA.out
      clear HA
      simp only [laws_FnExactSearchPulses.j0] at H
      by_cases c39 : x43_13 = true
      ·subst c39
       replace H : (none) = some r := by rw [if_pos rfl] at H; exact H
       exact absurd H (by simp)
      ·replace c39 := Bool.eq_false_iff.mpr c39
       subst c39
       replace H : ((laws_markIntsResult.f kj13 t193 t194 1).bind fun bt206 => ((laws_heldIntsResult.f kj13 t193 bt206.2 1).bind fun t208 => (if t208 < 0 then (none) else (if t208 = bt206.1 then ((laws_toInt64S.f kj13 l0).bind fun t209 => ((impl_SearchPulses.f kj13 t209 a1).bind fun bt212 => ((laws_eqIntsResult.f kj13 bt212.1 bt212.2 t185 t186).bind fun t217 => (if t217 = true then ((laws_heldIntsResult.f kj13 t193 bt206.2 1).bind fun t218 => (if t218 < 0 then (none) else (if t218 = bt206.1 then (some true) else (none)))) else (none))))) else (none))))) = some r := by rw [if_neg (show ¬ (false = true) by decide)] at H; exact H
       replace H := bnd H
       obtain ⟨⟨t206, t207⟩, A40, H⟩ := H
       replace H : ((laws_heldIntsResult.f kj13 t193 t207 1).bind fun t208 => (if t208 < 0 then (none) else (if t208 = t206 then ((laws_toInt64S.f kj13 l0).bind fun t209 => ((impl_SearchPulses.f kj13 t209 a1).bind fun bt212 => ((laws_eqIntsResult.f kj13 bt212.1 bt212.2 t185 t186).bind fun t217 => (if t217 = true then ((laws_heldIntsResult.f kj13 t193 t207 1).bind fun t218 => (if t218 < 0 then (none) else (if t218 = t206 then (some true) else (none)))) else (none))))) else (none)))) = some r := H
       replace H := bnd H
       obtain ⟨t208, A41, H⟩ := H
       by_cases c42 : t208 < 0
       ·rw [if_pos c42] at H
        exact absurd H (by simp)
       ·rw [if_neg c42] at H
        have c42b0 : decide (t208 < 0) = false := decide_eq_false c42
        clear c42
        by_cases c43 : t208 = t206
        ·rw [if_pos c43] at H
         have c43b0 : (t208 == t206) = true := beq_iff_eq.mpr c43
         have c43b1 : (t208 != t206) = false := bne_eq_false_iff_eq.mpr c43
         clear c43
         replace H := bnd H
         obtain ⟨t209, A44, H⟩ := H
         replace H := bnd H
         obtain ⟨⟨t212, t213⟩, A45, H⟩ := H
         replace H : ((laws_eqIntsResult.f kj13 t212 t213 t185 t186).bind fun t217 => (if t217 = true then ((laws_heldIntsResult.f kj13 t193 t207 1).bind fun t218 => (if t218 < 0 then (none) else (if t218 = t206 then (some true) else (none)))) else (none))) = some r := H
         replace H := bnd H
         obtain ⟨t217, A46, H⟩ := H
         by_cases c47 : t217 = true
         ·subst c47
          replace H : ((laws_heldIntsResult.f kj13 t193 t207 1).bind fun t218 => (if t218 < 0 then (none) else (if t218 = t206 then (some true) else (none)))) = some r := by rw [if_pos rfl] at H; exact H
          replace H := bnd H
          obtain ⟨t218, A48, H⟩ := H
          by_cases c49 : t218 < 0
          ·rw [if_pos c49] at H
           exact absurd H (by simp)
          ·rw [if_neg c49] at H
           have c49b0 : decide (t218 < 0) = false := decide_eq_false c49
           clear c49
           by_cases c50 : t218 = t206
           ·rw [if_pos c50] at H
            have c50b0 : (t218 == t206) = true := beq_iff_eq.mpr c50
            have c50b1 : (t218 != t206) = false := bne_eq_false_iff_eq.mpr c50
            clear c50
            obtain rfl := Option.some.inj H
            have hnb51 := NB197_189.out
            have hnc51 := NB189_197.out
            obtain ⟨hcz52_0, hcz52_1, hfz52_0, hfz52_1⟩ := cf2 (W := wc) BK197.out
            go_wp2_with (first | ((with_reducible refine gate_callee (f := 30) rfl ?_); refine gl_ 46 Try.func30 #[.agg #[.int .i64 t193, .slice Ao27 t194.length co27], .int .i64 1] ?_; (with_reducible refine (laws_markIntsResult.calls kj13 t193 (fun k_ => some k_ = (.slice Ao27 t194.length co27 : Value).ownBlock) (.slice Ao27 t194.length co27) t194 1 t206 t207 w _ ?_ ?_ A40.out).mono ?_); exact bnx; exact Kd.R_tight rfl HO_198001.out; rintro e w53 ⟨rfl, hy0, hb, hkp⟩; refine ⟨_, rfl, ?_⟩; replace HO_190001 := am (Kd.R_mono (ok' := fun k_ => some k_ ≠ (.slice Ao27 t194.length co27 : Value).ownBlock) (Kd.R_keptB (HO_190001.out) hkp (fun k_ hk_ hs_ => (hk_) hs_)) (fun k_ hk_ => hk_.1)); replace BK189 := am (blk_kept (bpl BK189.out) hkp (fun hs_ => (fun e_ => (Kd.R_ne HO_198001.out BK189.out (by decide)) e_) hs_)); replace BK197 := am (blk_kept (bpl BK197.out) hkp (fun hs_ => (fun e_ => (Kd.R_ne HO_198001.out BK197.out (by decide)) e_) hs_)); replace HO_198001 := am (Kd.R_reok rfl hy0 (fun k_ e_ => HO_198001.out.1 k_ e_)); replace HB := am hb; (try clear hb); (try clear hkp); (try clear hy0); obtain ⟨hcz54_0, hcz54_1, hfz54_0, hfz54_1⟩ := cf2 (W := w53) BK197.out) | ((with_reducible refine gate_callee (f := 31) rfl ?_); refine goesL_ (some 49) rfl rfl Try.func31 (by kernel_rfl) rfl #[.agg #[.int .i64 t193, .slice Ao27 t207.length co27], .int .i64 1] rfl (by (try simp only [List.map_toArray, List.map_cons, List.map_nil]); first | done | (rw [show t207.length = t194.length from (Kd.R_reads' HO_198001.out).1.symm] <;> rfl) | rfl | (simp only [List.length_drop, List.length_take]; rfl)) ?_; (with_reducible refine (laws_heldIntsResult.calls kj13 t193 _ _ t207 1 t208 _ ?side1 ?side2 A41.out).mono ?_); (case side1 => repeat (first | exact (Kd.R_reads' HO_198001.out).2.2 | (with_reducible refine Kd.C_alloc ?_ _) | (with_reducible refine Kd.C_drewN ?_ _) | (with_reducible refine Kd.C_drew ?_))); (case side2 => rw [show t207.length = t194.length from (Kd.R_reads' HO_198001.out).1.symm]; exact (Kd.R_reads' HO_198001.out).2.1); rintro e w55 ⟨rfl, hb⟩; refine ⟨_, rfl, ?_⟩; replace HO_190001 := rbl HO_190001 hb; replace HO_198001 := rbl HO_198001 hb; replace BK189 := bkb BK189 hb; replace BK197 := bkb BK197 hb; replace HB := hbs hb; (try clear hb)) | ((with_reducible refine gate_callee (f := 25) rfl ?_); refine gl_ 56 Try.func25 #[.slice A0 l0.length c0] ?_; (with_reducible refine (laws_toInt64S.calls kj13 _ _ l0 t209 _ ?_ ?_ A44.out).mono ?_); exact cpl HR0.out; exact HC0.out; rintro e w56 ⟨v210, rfl, ho0, hb⟩; refine ⟨_, rfl, ?_⟩; have HO211 := am (Kd.R_lower (Kd.R_new' (Kd.R_new' ho0 (rlt HO_190001)) (rlt HO_198001)) bsz); replace HO_190001 := rel HO_190001 ho0 hb; replace HO_198001 := rel HO_198001 ho0 hb; replace BK189 := bkb BK189 hb; replace BK197 := bkb BK197 hb; replace HB := hbs hb; (try clear hb); (try clear ho0); obtain ⟨Ao57, co57, eo57⟩ := Kd.R_slice HO211.out; subst eo57) | ((with_reducible refine gate_callee (f := 49) rfl ?_); refine gl_ 58 Try.func49 #[.slice Ao57 t209.length co57, .int .i64 a1] ?_; (with_reducible refine (impl_SearchPulses.calls kj13 _ _ t209 a1 t212 t213 _ ?_ ?_ A45.out).mono ?_); exact crd HO211; exact (Kd.R_reads' HO211.out).2.1; rintro e w58 ⟨v214, rfl, ho0, hb⟩; refine ⟨_, rfl, ?_⟩; have HO215 := am (Kd.R_lower (Kd.R_new' (Kd.R_new' (Kd.R_new' ho0 (rlt HO_190001)) (rlt HO_198001)) (rlt HO211)) bsz); replace HO_190001 := rel HO_190001 ho0 hb; replace HO_198001 := rel HO_198001 ho0 hb; replace HO211 := rel HO211 ho0 hb; replace BK189 := bkb BK189 hb; replace BK197 := bkb BK197 hb; replace HB := hbs hb; (try clear hb); (try clear ho0)) | ((with_reducible refine gate_dst (N := 11) rfl ?_); refine bev 11 28 #[.int .i64 0, .slice none 0 0] ?_; intro gb216 hg w59 hbox hb; replace HO_190001 := rbl HO_190001 hb; replace HO_198001 := rbl HO_198001 hb; replace HO211 := rbl HO211 hb; replace HO215 := rbl HO215 hb; have BK216 := am hbox; have GW216 := gwe hg; have GE216 := gwe hg; replace HB := hbs hb; have NB189_216 := nbl hg BK189; have NB216_189 := nbg hg BK189; replace BK189 := bkb BK189 hb; have NB197_216 := nbl hg BK197; have NB216_197 := nbg hg BK197; replace BK197 := bkb BK197 hb; clear hb hbox hg; have hnb60 := NB216_189.out; have hnc60 := NB189_216.out; have hnb61 := NB216_197.out; have hnc61 := NB197_216.out; obtain ⟨hcz62_0, hcz62_1, hfz62_0, hfz62_1⟩ := cf2 (W := w59) BK216.out; obtain ⟨Ao63, co63, eo63⟩ := Kd.R_slice HO215.out; subst eo63; obtain ⟨hcz64_0, hcz64_1, hfz64_0, hfz64_1⟩ := cf2 (W := w59) BK189.out) | ((with_reducible refine gate_callee (f := 27) rfl ?_); refine gl_ 61 Try.func27 #[.agg #[.int .i64 t212, .slice Ao63 t213.length co63], .agg #[.int .i64 t185, .slice Ao20 t186.length co20]] ?_; (with_reducible refine (laws_eqIntsResult.calls kj13 t212 _ _ t213 t185 _ _ t186 true _ ?side1 ?side2 ?side3 ?side4 A46.out).mono ?_); (case side1 => refine (Kd.R_reads' (e := 2) (base := w.heap.size) (ok := fun k_ => (((True ∧ some k_ ≠ (.slice Ao20 t186.length co20 : Value).ownBlock) ∧ some k_ ≠ (.slice Ao27 t194.length co27 : Value).ownBlock) ∧ some k_ ≠ (.slice Ao57 t209.length co57 : Value).ownBlock)) (n := t213.length) (c := co63) ?_).2.2; exact (by (with_reducible repeat (first | apply Kd.R_alloc | apply Kd.R_drewN | apply Kd.R_drew)); exact (Kd.R_mono (Kd.R_far (p := ⟨gb216, 1, none⟩) (Kd.R_far (p := ⟨gb216, 0, none⟩) (Kd.R_types HO215.out BK216.out (by decide)) (fun _ hk => hk.2) (.int .i64 t212)) (fun _ hk => hk.2) (.slice Ao63 t213.length co63)) (fun _ h_ => h_.1)))); (case side2 => exact (Kd.R_reads' HO215.out).2.1); (case side3 => refine (Kd.R_reads' (e := 2) (base := w.heap.size) (ok := fun k_ => ((some k_ ≠ (.slice Ao27 t194.length co27 : Value).ownBlock ∧ some k_ ≠ (.slice Ao57 t209.length co57 : Value).ownBlock) ∧ some k_ ≠ (.slice Ao63 t213.length co63 : Value).ownBlock)) (n := t186.length) (c := co20) ?_).2.2; exact (by (with_reducible repeat (first | apply Kd.R_alloc | apply Kd.R_drewN | apply Kd.R_drew)); exact (Kd.R_mono (Kd.R_far (p := ⟨gb216, 1, none⟩) (Kd.R_far (p := ⟨gb216, 0, none⟩) (Kd.R_types HO_190001.out BK216.out (by decide)) (fun _ hk => hk.2) (.int .i64 t212)) (fun _ hk => hk.2) (.slice Ao63 t213.length co63)) (fun _ h_ => h_.1)))); (case side4 => exact (Kd.R_reads' HO_190001.out).2.1); rintro e w65 ⟨rfl, hb⟩; refine ⟨_, rfl, ?_⟩; replace HO_190001 := am (Kd.R_below (by (with_reducible repeat (first | apply Kd.R_alloc | apply Kd.R_drewN | apply Kd.R_drew)); exact (Kd.R_mono (Kd.R_far (p := ⟨gb216, 1, none⟩) (Kd.R_far (p := ⟨gb216, 0, none⟩) (Kd.R_types HO_190001.out BK216.out (by decide)) (fun _ hk => hk.2) (.int .i64 t212)) (fun _ hk => hk.2) (.slice Ao63 t213.length co63)) (fun _ h_ => h_.1))) hb); replace HO_198001 := am (Kd.R_below (by (with_reducible repeat (first | apply Kd.R_alloc | apply Kd.R_drewN | apply Kd.R_drew)); exact (Kd.R_mono (Kd.R_far (p := ⟨gb216, 1, none⟩) (Kd.R_far (p := ⟨gb216, 0, none⟩) (Kd.R_types HO_198001.out BK216.out (by decide)) (fun _ hk => hk.2) (.int .i64 t212)) (fun _ hk => hk.2) (.slice Ao63 t213.length co63)) (fun _ h_ => h_.1))) hb); replace HO211 := am (Kd.R_below (by (with_reducible repeat (first | apply Kd.R_alloc | apply Kd.R_drewN | apply Kd.R_drew)); exact (Kd.R_mono (Kd.R_far (p := ⟨gb216, 1, none⟩) (Kd.R_far (p := ⟨gb216, 0, none⟩) (Kd.R_types HO211.out BK216.out (by decide)) (fun _ hk => hk.2) (.int .i64 t212)) (fun _ hk => hk.2) (.slice Ao63 t213.length co63)) (fun _ h_ => h_.1))) hb); replace HO215 := am (Kd.R_below (by (with_reducible repeat (first | apply Kd.R_alloc | apply Kd.R_drewN | apply Kd.R_drew)); exact (Kd.R_mono (Kd.R_far (p := ⟨gb216, 1, none⟩) (Kd.R_far (p := ⟨gb216, 0, none⟩) (Kd.R_types HO215.out BK216.out (by decide)) (fun _ hk => hk.2) (.int .i64 t212)) (fun _ hk => hk.2) (.slice Ao63 t213.length co63)) (fun _ h_ => h_.1))) hb); replace BK189 := am (blk_below (g := gb189) (o := .cells #[.int .i64 t185, .slice Ao20 t186.length co20] 28 (0, 0)) (by (with_reducible repeat (first | refine blk_drewN ?_ _ | refine blk_drew ?_ | refine blk_alloc ?_ _)); refine blk_far ?_ NB189_216.out _; (with_reducible repeat (first | refine blk_drewN ?_ _ | refine blk_drew ?_ | refine blk_alloc ?_ _)); refine blk_far ?_ NB189_216.out _; (with_reducible repeat (first | refine blk_drewN ?_ _ | refine blk_drew ?_ | refine blk_alloc ?_ _)); exact BK189.out) hb); replace BK197 := am (blk_below (g := gb197) (o := .cells #[.int .i64 t193, .slice Ao27 t194.length co27] 28 (0, 0)) (by (with_reducible repeat (first | refine blk_drewN ?_ _ | refine blk_drew ?_ | refine blk_alloc ?_ _)); refine blk_far ?_ NB197_216.out _; (with_reducible repeat (first | refine blk_drewN ?_ _ | refine blk_drew ?_ | refine blk_alloc ?_ _)); refine blk_far ?_ NB197_216.out _; (with_reducible repeat (first | refine blk_drewN ?_ _ | refine blk_drew ?_ | refine blk_alloc ?_ _)); exact BK197.out) hb); replace BK216 := am (blk_below (g := gb216) (o := .cells #[.int .i64 t212, .slice Ao63 t213.length co63] 28 (0, 0)) (by (with_reducible repeat (first | refine blk_drewN ?_ _ | refine blk_drew ?_ | refine blk_alloc ?_ _)); refine blk_put (cs := #[.int .i64 t212, .slice none 0 0]) ?_ 1 _ rfl; (with_reducible repeat (first | refine blk_drewN ?_ _ | refine blk_drew ?_ | refine blk_alloc ?_ _)); refine blk_put (cs := #[.int .i64 0, .slice none 0 0]) ?_ 0 _ rfl; exact bpl BK216.out) hb); replace HB := hbs hb; (try clear hb); obtain ⟨hcz66_0, hcz66_1, hfz66_0, hfz66_1⟩ := cf2 (W := w65) BK197.out) | ((with_reducible refine gate_callee (f := 31) rfl ?_); refine goesL_ (some 65) rfl rfl Try.func31 (by kernel_rfl) rfl #[.agg #[.int .i64 t193, .slice Ao27 t207.length co27], .int .i64 1] rfl (by (try simp only [List.map_toArray, List.map_cons, List.map_nil]); first | done | (rw [show t207.length = t194.length from (Kd.R_reads' HO_198001.out).1.symm] <;> rfl) | rfl | (simp only [List.length_drop, List.length_take]; rfl)) ?_; (with_reducible refine (laws_heldIntsResult.calls kj13 t193 _ _ t207 1 t218 _ ?side1 ?side2 A48.out).mono ?_); (case side1 => repeat (first | exact (Kd.R_reads' HO_198001.out).2.2 | (with_reducible refine Kd.C_alloc ?_ _) | (with_reducible refine Kd.C_drewN ?_ _) | (with_reducible refine Kd.C_drew ?_))); (case side2 => rw [show t207.length = t194.length from (Kd.R_reads' HO_198001.out).1.symm]; exact (Kd.R_reads' HO_198001.out).2.1); rintro e w67 ⟨rfl, hb⟩; refine ⟨_, rfl, ?_⟩; replace HO_190001 := rbl HO_190001 hb; replace HO_198001 := rbl HO_198001 hb; replace HO211 := rbl HO211 hb; replace HO215 := rbl HO215 hb; replace BK189 := bkb BK189 hb; replace BK197 := bkb BK197 hb; replace BK216 := bkb BK216 hb; replace HB := hbs hb; (try clear hb)))
            go_ret
            exact ⟨enq, bnx⟩
           ·rw [if_neg c50] at H
            exact absurd H (by simp)
         ·replace c47 := Bool.eq_false_iff.mpr c47
          subst c47
          replace H : (none) = some r := by rw [if_neg (show ¬ (false = true) by decide)] at H; exact H
          exact absurd H (by simp)
        ·rw [if_neg c43] at H
         exact absurd H (by simp)
   ·replace c12 := Bool.eq_false_iff.mpr c12
    subst c12
    replace H : (none) = some r := by rw [if_neg (show ¬ (false = true) by decide)] at H; exact H
    exact absurd H (by simp)
  ·replace c9 := Bool.eq_false_iff.mpr c9
   subst c9
   replace H : (none) = some r := by rw [if_neg (show ¬ (false = true) by decide)] at H; exact H
   exact absurd H (by simp)

/-- THE ONE PURE STATEMENT of laws_FnExactSearchPulses: yours. -/
def laws_FnExactSearchPulses.Pure : Prop := ∀ (l0 : List Int) (a1 : Int), l0.length ≤ maxLen → l0.length * 8 ≤ 140737488351232 → (∀ x ∈ l0, (Lit.int .i64 x).wf = true) → (Lit.int .i64 a1).wf = true → ∃ k, laws_FnExactSearchPulses.f k l0 a1 = some true
theorem laws_FnExactSearchPulses.walk (P : laws_FnExactSearchPulses.Pure) (a0 : Option Addr) (len0 cap0 : Nat) (z0 : List Int) (a1 : Int) (w : World) (w0 : (a0 = none ∧ len0 = 0 ∧ cap0 = 0 ∧ z0 = []) ∨ ∃ x, a0 = some x ∧ len0 ≤ cap0 ∧ cap0 ≤ maxLen ∧ z0.length = cap0 ∧ (∀ i, i < z0.length → w.cell? (x.add i) = some (.int .i64 (z0.getD i 0))) ∧ ∀ n ∈ z0, (Lit.int .i64 n).wf = true) (y0 : len0 * 8 ≤ 140737488351232) (w1 : (Lit.int .i64 a1).wf = true) :
  Calls Try.prog 8 #[.slice a0 len0 cap0, .int .i64 a1] w fun e w' => e = .returned (.bool true) ∧ Below w.heap.size w w' := by
 obtain ⟨l0, rfl, hr0, hm0, hw0, hc0⟩ := ReadsInt.ofRowC w0
 obtain ⟨k, h⟩ := P l0 a1 hm0 y0 hw0 w1
 refine (laws_FnExactSearchPulses.calls k _ _ l0 a1 true w (Kd.C_of_reads (d := (0 : Int)) (h1 := fun _ => rfl) hr0) hc0 h).mono ?_
 rintro e w' ⟨rfl, hd⟩
 exact ⟨rfl, hd⟩

end Go.Proofs.Ytpbkbibjlbbkbaa.PFnExactSearchPulses
