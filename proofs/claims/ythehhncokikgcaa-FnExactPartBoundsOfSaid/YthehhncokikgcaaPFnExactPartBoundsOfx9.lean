-- Contracts of the functions that the law reaches, written by wip/xprint.py of this repo.
import Derived.Test.YthehhncokikgcaaPFnExactPartBoundsOfx0
import Derived.Test.YthehhncokikgcaaPFnExactPartBoundsOfx8
namespace Go.Proofs.Ythehhncokikgcaa.PFnExactPartBoundsOf
open Go.RowKit Go.Proofs.YthehhncokikgcaaW.PrintWords Go.Proofs.YthehhncokikgcaaW.PrintLast Go.Proofs.YthehhncokikgcaaW.PrintMore
attribute [local go_sem] max2_int min2_int max_two min_two max_three min_three max_four min_four   -- for this text's walks alone
set_option linter.unusedVariables false
set_option linter.unusedSimpArgs false

/-! ### impl_PartFault_1_any: function 165 -/
/-- The closure: is a low out of its range, restored as a side restores it. -/
def partP (rung spread x : Int) : Option Bool := (impl_isIndexOf.f x).bind fun b => if b = true then ((impl_Restore.f (wrap64 ((wrap64 (spread + 1)) * x)) rung).bind fun p => some (!decide (p.1 = 0))) else some true
def impl_PartFault_1_any.f (l0 : List Int) (a1 : Int) (a2 : Int) : Option Bool := anyP (partP a1 a2) l0
set_option maxHeartbeats 2000000 in
set_option maxRecDepth 100000 in
theorem part_asks (rung spread : Int) (B t : Nat) (cs : Array Value) (w : World) (hb0 : w.heap[B]? = some (.cells cs t (0, 0))) (hcs : cs[2]? = some (.int .i64 rung)) (hcs2 : cs[4]? = some (.int .i64 spread)) : Asks 165 #[.pointer (some ⟨B, 0, none⟩)] (partP rung spread) w := fun x b W hb hx => by
  have hW := Aside0.mk (blk_below hb0 hb)
  have hS := Aside0.mk hcs
  have hS2 := Aside0.mk hcs2
  unfold partP at hx
  replace hx := Option.bind_eq_some_iff.mp hx
  obtain ⟨b1, h1, hx⟩ := hx
  have H1 := Aside0.mk h1
  clear h1 hb0 hcs hcs2 hb
  show Calls Try.prog 165 #[.int .i64 x, .pointer (some ⟨B, 0, none⟩)] W _
  have hfd : ∀ (x0 x1 : Int) (W : World), (Instr.field 129 (.agg #[.int .i64 x0, .int .i64 x1]) 0).run Try.prog W = .ok (.int .i64 x0) W := fun _ _ _ => by kernel_rfl
  cases b1 with
  | true =>
    rw [if_pos rfl] at hx
    replace hx := Option.bind_eq_some_iff.mp hx
    obtain ⟨⟨p1, p2⟩, h2, hx⟩ := hx
    have H2 := Aside0.mk h2
    obtain rfl := Option.some.inj hx
    clear h2 hx
    go_enter Try.func165, Try.ntmps165
    go_wp2_with (first | (go_at_call 155; refine (impl_isIndexOf.calls x true _ H1.out).mono ?_; rintro e w' ⟨rfl, hd⟩; have hq1 := Aside0.mk hd; have hc : w'.cell? ⟨B, 2, none⟩ = some (.int .i64 rung) := (blk_cell (blk_below hW.out hd.below) 2).trans hS.out; have hc2 : w'.cell? ⟨B, 4, none⟩ = some (.int .i64 spread) := (blk_cell (blk_below hW.out hd.below) 4).trans hS2.out; clear hd) | (go_at_call 156; refine (impl_Restore.calls (wrap64 ((wrap64 (spread + 1)) * x)) rung p1 p2 _ H2.out).mono ?_; rintro e w' ⟨rfl, hd⟩))
    go_ret
    exact ⟨by first | rfl | simp_all, below_step hq1.out.below hd⟩
  | false =>
    rw [if_neg (by simp)] at hx
    obtain rfl := Option.some.inj hx
    clear hx
    go_enter Try.func165, Try.ntmps165
    go_wp2_with (go_at_call 155; refine (impl_isIndexOf.calls x false _ H1.out).mono ?_; rintro e w' ⟨rfl, hd⟩)
    go_ret
    exact ⟨by first | rfl | simp_all, hd.below⟩
theorem impl_PartFault_1_any.calls {B : Nat} (A0 : Option Addr) (c0 : Nat) (l0 : List Int) (a1 : Int) (a2 : Int) (r : Bool) (w : World) (hbx : Aside0 (∃ (t : Nat) (cs : Array Value), w.heap[B]? = some (.cells cs t (0, 0)) ∧ cs[2]? = some (.int .i64 a1) ∧ cs[4]? = some (.int .i64 a2))) (hr0 : Kd.C (Kd.int .i64) w A0 l0.length l0) (hc0 : l0.length ≤ c0) (h : impl_PartFault_1_any.f l0 a1 a2 = some r) :
    Calls Try.prog 123 #[.slice A0 l0.length c0, .func (.func 165) #[] #[.pointer (some ⟨B, 0, none⟩)]] w fun e w' => e = .returned (.bool r) ∧ Below w.heap.size w w' :=
  match hbx.out with | ⟨t, cs, hb, hcs, hcs2⟩ => contains_calls (partP a1 a2) 165 #[.pointer (some ⟨B, 0, none⟩)] (enters_of Try.func165 (by kernel_rfl) rfl) A0 c0 l0 r w (part_asks a1 a2 B t cs w hb hcs hcs2) hr0 hc0 h

end Go.Proofs.Ythehhncokikgcaa.PFnExactPartBoundsOf
