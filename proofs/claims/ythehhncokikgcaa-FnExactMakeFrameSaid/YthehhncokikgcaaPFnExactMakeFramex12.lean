-- Contracts of the functions that the law reaches, written by wip/xprint.py of this repo.
import Derived.Test.YthehhncokikgcaaPFnExactMakeFramex0
namespace Go.Proofs.Ythehhncokikgcaa.PFnExactMakeFrame
open Go.RowKit Go.Proofs.YthehhncokikgcaaW.PrintWords Go.Proofs.YthehhncokikgcaaW.PrintLast Go.Proofs.YthehhncokikgcaaW.PrintMore
attribute [local go_sem] max2_int min2_int max_two min_two max_three min_three max_four min_four   -- for this text's walks alone
set_option linter.unusedVariables false
set_option linter.unusedSimpArgs false

/-! ### impl_Band_of_any: function 116 -/
/-- A cut of a slice by a band: what the walk tells of it stands in the fact hcut. -/
def impl_Band_of_any.f (f0 : Int) (f1 : Int) : Option Bool := some true
set_option maxHeartbeats 2000000 in
set_option maxRecDepth 100000 in
theorem impl_Band_of_any.calls {V : Value} {A : Option Addr} {n c : Nat} (f0 : Int) (f1 : Int) (r : Bool) (w : World) (hcut : ∀ W : World, (Instr.slice 24 (.slice A n c) (some (.int .i64 f0)) (some (.int .i64 (wrap64 (f0 + f1)))) none).run Try.prog W = .ok V W) (h : impl_Band_of_any.f f0 f1 = some r) :
    Calls Try.prog 116 #[.agg #[.int .i64 f0, .int .i64 f1], .slice A n c] w fun e w' => e = .returned V ∧ Below w.heap.size w w' := by
  have HB := Aside0.mk (Below.refl w.heap.size w)
  clear h
  go_enter Try.func116, Try.ntmps116
  go_wp2
  repeat (go_quiet (fail); try go_wp2)
  go_ret
  exact ⟨by first | rfl | (simp [*]; done) | simp_all, by repeat (first | (with_reducible first | exact HB.out | apply below_alloc | apply pw_below_drewN | apply below_drew1) | exact HB.out)⟩

end Go.Proofs.Ythehhncokikgcaa.PFnExactMakeFrame
