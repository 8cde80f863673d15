/-
  No cell of these rows narrows 'for every input' (looked for: loops, veiled, ifaces, maps, wideKeys, modest, calm, conditions, laid).
  DERIVED. THE GIVEN ROWS OF THIS SEAT. 12 by the template 'for every input the law returns true; each argument reads behind the call as it read before'; 0 by the template 'total and deterministic' (their statements: YtkjmakddpacffaaTotals.lean).
  GIVEN WITH THE SEED: the statements are not yours to turn. If you find one false, say at which input.
  Laid BY PROGRAM, IN A SANDBOX (cutbox-rows.mjs): the forced cells as the released guide's own fill.sh prints them over the translation 3876162565afb253… (all of the seat's roots in one cut). By AI agents, Wed Nov 11 2026. No macro, syntax, notation, axiom, sorry.
-/
import Derived.Test.YtkjmakddpacffaaChecked
import GoSem.Claim
import GoSem.ClaimJoined
import GoSem.ClaimMapViews
import Derived.JoinedTies
import Derived.KernelRfl
namespace Go.Proofs.Ytkjmakddpacffaa
/- THE CELL 'sum', in the pinned program and in every row, IS THE sha256 OF THE DUMP (.gsa) THAT YtkjmakddpacffaaProg.lean LOADS. Nothing in Lean hashes anything: it is a label: what it is worth is what the hold of that sum in a sandbox is worth. -/
noncomputable def Try.pinned : Pinned := { name := "ytkjmakddpacffaa", sum := "3876162565afb2534cba5e557f1947ccfd06f51fa5768d0509e49c643c153dbc", checked := Try.checked }
namespace Rows
def none {H : Type} : Left H := { results := [], args := [] }

/-- 'laws.FnExactFillBound': WHATEVER THE INPUT: true; the input reads as it did. -/
def fnExactFillBoundSpec : ChangeSpec := { name := "fnExactFillBound", fn := fun _ => fun
  | [d1, d2] => { results := [.lit (.bool true)], args := [d1, d2] }
  | _ => none }
def fnExactFillBoundRow : OpenClaim := { program := "ytkjmakddpacffaa", sum := "3876162565afb2534cba5e557f1947ccfd06f51fa5768d0509e49c643c153dbc", func := "loop.example/g00657/laws.FnExactFillBound", spec := "fnExactFillBound", apart := false }
def FnExactFillBoundSaid : Prop := fnExactFillBoundRow.holds Try.pinned (OpenSpec.ofChange fnExactFillBoundSpec)

/-- ITS FALSE NEIGHBOUR: 'it returns false'. Refute it at one input. -/
def fnExactFillBoundWrong : ChangeSpec := { name := "fnExactFillBound", fn := fun _ => fun
  | [d1, d2] => { results := [.lit (.bool false)], args := [d1, d2] }
  | _ => none }
def FnExactFillBoundWrongFalsely : Prop := fnExactFillBoundRow.holds Try.pinned (OpenSpec.ofChange fnExactFillBoundWrong)

/-- 'laws.FnExactOwnerOf': WHATEVER THE INPUT: true; the input reads as it did. -/
def fnExactOwnerOfSpec : ChangeSpec := { name := "fnExactOwnerOf", fn := fun _ => fun
  | [d1, d2] => { results := [.lit (.bool true)], args := [d1, d2] }
  | _ => none }
def fnExactOwnerOfRow : OpenClaim := { program := "ytkjmakddpacffaa", sum := "3876162565afb2534cba5e557f1947ccfd06f51fa5768d0509e49c643c153dbc", func := "loop.example/g00657/laws.FnExactOwnerOf", spec := "fnExactOwnerOf", apart := false }
def FnExactOwnerOfSaid : Prop := fnExactOwnerOfRow.holds Try.pinned (OpenSpec.ofChange fnExactOwnerOfSpec)

/-- ITS FALSE NEIGHBOUR: 'it returns false'. Refute it at one input. -/
def fnExactOwnerOfWrong : ChangeSpec := { name := "fnExactOwnerOf", fn := fun _ => fun
  | [d1, d2] => { results := [.lit (.bool false)], args := [d1, d2] }
  | _ => none }
def FnExactOwnerOfWrongFalsely : Prop := fnExactOwnerOfRow.holds Try.pinned (OpenSpec.ofChange fnExactOwnerOfWrong)

/-- 'laws.FnExactPlanFault': WHATEVER THE INPUT: true; the input reads as it did. -/
def fnExactPlanFaultSpec : ChangeSpec := { name := "fnExactPlanFault", fn := fun _ => fun
  | [d] => { results := [.lit (.bool true)], args := [d] }
  | _ => none }
def fnExactPlanFaultRow : OpenClaim := { program := "ytkjmakddpacffaa", sum := "3876162565afb2534cba5e557f1947ccfd06f51fa5768d0509e49c643c153dbc", func := "loop.example/g00657/laws.FnExactPlanFault", spec := "fnExactPlanFault", apart := false }
def FnExactPlanFaultSaid : Prop := fnExactPlanFaultRow.holds Try.pinned (OpenSpec.ofChange fnExactPlanFaultSpec)

/-- ITS FALSE NEIGHBOUR: 'it returns false'. Refute it at one input. -/
def fnExactPlanFaultWrong : ChangeSpec := { name := "fnExactPlanFault", fn := fun _ => fun
  | [d] => { results := [.lit (.bool false)], args := [d] }
  | _ => none }
def FnExactPlanFaultWrongFalsely : Prop := fnExactPlanFaultRow.holds Try.pinned (OpenSpec.ofChange fnExactPlanFaultWrong)

/-- 'laws.FnExactPulsesFor': WHATEVER THE INPUT: true; the input reads as it did. -/
def fnExactPulsesForSpec : ChangeSpec := { name := "fnExactPulsesFor", fn := fun _ => fun
  | [d] => { results := [.lit (.bool true)], args := [d] }
  | _ => none }
def fnExactPulsesForRow : OpenClaim := { program := "ytkjmakddpacffaa", sum := "3876162565afb2534cba5e557f1947ccfd06f51fa5768d0509e49c643c153dbc", func := "loop.example/g00657/laws.FnExactPulsesFor", spec := "fnExactPulsesFor", apart := false }
def FnExactPulsesForSaid : Prop := fnExactPulsesForRow.holds Try.pinned (OpenSpec.ofChange fnExactPulsesForSpec)

/-- ITS FALSE NEIGHBOUR: 'it returns false'. Refute it at one input. -/
def fnExactPulsesForWrong : ChangeSpec := { name := "fnExactPulsesFor", fn := fun _ => fun
  | [d] => { results := [.lit (.bool false)], args := [d] }
  | _ => none }
def FnExactPulsesForWrongFalsely : Prop := fnExactPulsesForRow.holds Try.pinned (OpenSpec.ofChange fnExactPulsesForWrong)

/-- 'laws.FnExactLowCount': WHATEVER THE INPUT: true; the input reads as it did. -/
def fnExactLowCountSpec : ChangeSpec := { name := "fnExactLowCount", fn := fun _ => fun
  | [d] => { results := [.lit (.bool true)], args := [d] }
  | _ => none }
def fnExactLowCountRow : OpenClaim := { program := "ytkjmakddpacffaa", sum := "3876162565afb2534cba5e557f1947ccfd06f51fa5768d0509e49c643c153dbc", func := "loop.example/g00657/laws.FnExactLowCount", spec := "fnExactLowCount", apart := false }
def FnExactLowCountSaid : Prop := fnExactLowCountRow.holds Try.pinned (OpenSpec.ofChange fnExactLowCountSpec)

/-- ITS FALSE NEIGHBOUR: 'it returns false'. Refute it at one input. -/
def fnExactLowCountWrong : ChangeSpec := { name := "fnExactLowCount", fn := fun _ => fun
  | [d] => { results := [.lit (.bool false)], args := [d] }
  | _ => none }
def FnExactLowCountWrongFalsely : Prop := fnExactLowCountRow.holds Try.pinned (OpenSpec.ofChange fnExactLowCountWrong)

/-- 'laws.FnExactShapeBound': WHATEVER THE INPUT: true; the input reads as it did. -/
def fnExactShapeBoundSpec : ChangeSpec := { name := "fnExactShapeBound", fn := fun _ => fun
  | [d1, d2, d3] => { results := [.lit (.bool true)], args := [d1, d2, d3] }
  | _ => none }
def fnExactShapeBoundRow : OpenClaim := { program := "ytkjmakddpacffaa", sum := "3876162565afb2534cba5e557f1947ccfd06f51fa5768d0509e49c643c153dbc", func := "loop.example/g00657/laws.FnExactShapeBound", spec := "fnExactShapeBound", apart := false }
def FnExactShapeBoundSaid : Prop := fnExactShapeBoundRow.holds Try.pinned (OpenSpec.ofChange fnExactShapeBoundSpec)

/-- ITS FALSE NEIGHBOUR: 'it returns false'. Refute it at one input. -/
def fnExactShapeBoundWrong : ChangeSpec := { name := "fnExactShapeBound", fn := fun _ => fun
  | [d1, d2, d3] => { results := [.lit (.bool false)], args := [d1, d2, d3] }
  | _ => none }
def FnExactShapeBoundWrongFalsely : Prop := fnExactShapeBoundRow.holds Try.pinned (OpenSpec.ofChange fnExactShapeBoundWrong)

/-- 'laws.FnExactGainRung': WHATEVER THE INPUT: true; the input reads as it did. -/
def fnExactGainRungSpec : ChangeSpec := { name := "fnExactGainRung", fn := fun _ => fun
  | [d1, d2] => { results := [.lit (.bool true)], args := [d1, d2] }
  | _ => none }
def fnExactGainRungRow : OpenClaim := { program := "ytkjmakddpacffaa", sum := "3876162565afb2534cba5e557f1947ccfd06f51fa5768d0509e49c643c153dbc", func := "loop.example/g00657/laws.FnExactGainRung", spec := "fnExactGainRung", apart := false }
def FnExactGainRungSaid : Prop := fnExactGainRungRow.holds Try.pinned (OpenSpec.ofChange fnExactGainRungSpec)

/-- ITS FALSE NEIGHBOUR: 'it returns false'. Refute it at one input. -/
def fnExactGainRungWrong : ChangeSpec := { name := "fnExactGainRung", fn := fun _ => fun
  | [d1, d2] => { results := [.lit (.bool false)], args := [d1, d2] }
  | _ => none }
def FnExactGainRungWrongFalsely : Prop := fnExactGainRungRow.holds Try.pinned (OpenSpec.ofChange fnExactGainRungWrong)

/-- 'laws.FnExactSideIndex': WHATEVER THE INPUT: true; the input reads as it did. -/
def fnExactSideIndexSpec : ChangeSpec := { name := "fnExactSideIndex", fn := fun _ => fun
  | [d1, d2, d3, d4] => { results := [.lit (.bool true)], args := [d1, d2, d3, d4] }
  | _ => none }
def fnExactSideIndexRow : OpenClaim := { program := "ytkjmakddpacffaa", sum := "3876162565afb2534cba5e557f1947ccfd06f51fa5768d0509e49c643c153dbc", func := "loop.example/g00657/laws.FnExactSideIndex", spec := "fnExactSideIndex", apart := false }
def FnExactSideIndexSaid : Prop := fnExactSideIndexRow.holds Try.pinned (OpenSpec.ofChange fnExactSideIndexSpec)

/-- ITS FALSE NEIGHBOUR: 'it returns false'. Refute it at one input. -/
def fnExactSideIndexWrong : ChangeSpec := { name := "fnExactSideIndex", fn := fun _ => fun
  | [d1, d2, d3, d4] => { results := [.lit (.bool false)], args := [d1, d2, d3, d4] }
  | _ => none }
def FnExactSideIndexWrongFalsely : Prop := fnExactSideIndexRow.holds Try.pinned (OpenSpec.ofChange fnExactSideIndexWrong)

/-- 'laws.FnExactSpreadOf': WHATEVER THE INPUT: true; the input reads as it did. -/
def fnExactSpreadOfSpec : ChangeSpec := { name := "fnExactSpreadOf", fn := fun _ => fun
  | [d1, d2, d3] => { results := [.lit (.bool true)], args := [d1, d2, d3] }
  | _ => none }
def fnExactSpreadOfRow : OpenClaim := { program := "ytkjmakddpacffaa", sum := "3876162565afb2534cba5e557f1947ccfd06f51fa5768d0509e49c643c153dbc", func := "loop.example/g00657/laws.FnExactSpreadOf", spec := "fnExactSpreadOf", apart := false }
def FnExactSpreadOfSaid : Prop := fnExactSpreadOfRow.holds Try.pinned (OpenSpec.ofChange fnExactSpreadOfSpec)

/-- ITS FALSE NEIGHBOUR: 'it returns false'. Refute it at one input. -/
def fnExactSpreadOfWrong : ChangeSpec := { name := "fnExactSpreadOf", fn := fun _ => fun
  | [d1, d2, d3] => { results := [.lit (.bool false)], args := [d1, d2, d3] }
  | _ => none }
def FnExactSpreadOfWrongFalsely : Prop := fnExactSpreadOfRow.holds Try.pinned (OpenSpec.ofChange fnExactSpreadOfWrong)

/-- 'laws.FnExactStepOf': WHATEVER THE INPUT: true; the input reads as it did. -/
def fnExactStepOfSpec : ChangeSpec := { name := "fnExactStepOf", fn := fun _ => fun
  | [d] => { results := [.lit (.bool true)], args := [d] }
  | _ => none }
def fnExactStepOfRow : OpenClaim := { program := "ytkjmakddpacffaa", sum := "3876162565afb2534cba5e557f1947ccfd06f51fa5768d0509e49c643c153dbc", func := "loop.example/g00657/laws.FnExactStepOf", spec := "fnExactStepOf", apart := false }
def FnExactStepOfSaid : Prop := fnExactStepOfRow.holds Try.pinned (OpenSpec.ofChange fnExactStepOfSpec)

/-- ITS FALSE NEIGHBOUR: 'it returns false'. Refute it at one input. -/
def fnExactStepOfWrong : ChangeSpec := { name := "fnExactStepOf", fn := fun _ => fun
  | [d] => { results := [.lit (.bool false)], args := [d] }
  | _ => none }
def FnExactStepOfWrongFalsely : Prop := fnExactStepOfRow.holds Try.pinned (OpenSpec.ofChange fnExactStepOfWrong)

/-- 'laws.FnExactRestore': WHATEVER THE INPUT: true; the input reads as it did. -/
def fnExactRestoreSpec : ChangeSpec := { name := "fnExactRestore", fn := fun _ => fun
  | [d1, d2] => { results := [.lit (.bool true)], args := [d1, d2] }
  | _ => none }
def fnExactRestoreRow : OpenClaim := { program := "ytkjmakddpacffaa", sum := "3876162565afb2534cba5e557f1947ccfd06f51fa5768d0509e49c643c153dbc", func := "loop.example/g00657/laws.FnExactRestore", spec := "fnExactRestore", apart := false }
def FnExactRestoreSaid : Prop := fnExactRestoreRow.holds Try.pinned (OpenSpec.ofChange fnExactRestoreSpec)

/-- ITS FALSE NEIGHBOUR: 'it returns false'. Refute it at one input. -/
def fnExactRestoreWrong : ChangeSpec := { name := "fnExactRestore", fn := fun _ => fun
  | [d1, d2] => { results := [.lit (.bool false)], args := [d1, d2] }
  | _ => none }
def FnExactRestoreWrongFalsely : Prop := fnExactRestoreRow.holds Try.pinned (OpenSpec.ofChange fnExactRestoreWrong)

/-- 'laws.FnExactHalfStep': WHATEVER THE INPUT: true; the input reads as it did. -/
def fnExactHalfStepSpec : ChangeSpec := { name := "fnExactHalfStep", fn := fun _ => fun
  | [d] => { results := [.lit (.bool true)], args := [d] }
  | _ => none }
def fnExactHalfStepRow : OpenClaim := { program := "ytkjmakddpacffaa", sum := "3876162565afb2534cba5e557f1947ccfd06f51fa5768d0509e49c643c153dbc", func := "loop.example/g00657/laws.FnExactHalfStep", spec := "fnExactHalfStep", apart := false }
def FnExactHalfStepSaid : Prop := fnExactHalfStepRow.holds Try.pinned (OpenSpec.ofChange fnExactHalfStepSpec)

/-- ITS FALSE NEIGHBOUR: 'it returns false'. Refute it at one input. -/
def fnExactHalfStepWrong : ChangeSpec := { name := "fnExactHalfStep", fn := fun _ => fun
  | [d] => { results := [.lit (.bool false)], args := [d] }
  | _ => none }
def FnExactHalfStepWrongFalsely : Prop := fnExactHalfStepRow.holds Try.pinned (OpenSpec.ofChange fnExactHalfStepWrong)

/- THE SECOND FORM. 'bulk': how many values and letters a reading holds, each counted each time it is reached (what is shared counts as often as it is met; a slice's spare places count too). A statement '..UptoSaid' is the law's where the arguments, and the package variables that the reading takes, are together of bulk at most 1048576: NARROWER than '..Said'. Prove '..Said' where nothing that the law and all that it calls make is longer than what came in: it says more and counts as full. Else prove '..UptoSaid'. A law counts once. -/
mutual
def uptoBulk {H : Type} : DataW H → Nat
  | .lit (.string bytes) => bytes.length + 1
  | .lit _ => 1
  | .nil => 1
  | .ptr d => uptoBulk d + 1
  | .slice elems spare => uptoBulkAll elems + uptoBulkAll spare + 1
  | .agg parts => uptoBulkAll parts + 1
  | .iface _ d => uptoBulk d + 1
  | .map entries => uptoBulkEntries entries + 1
  | .held _ => 1
def uptoBulkAll {H : Type} : List (DataW H) → Nat
  | [] => 0
  | d :: r => uptoBulk d + uptoBulkAll r
def uptoBulkEntries {H : Type} : List (Lit × DataW H) → Nat
  | [] => 0
  | x :: r => uptoBulkEntry x + uptoBulkEntries r
def uptoBulkEntry {H : Type} : Lit × DataW H → Nat
  | (.string bytes, d) => bytes.length + uptoBulk d + 1
  | (_, d) => uptoBulk d + 1
 end
def uptoSmall : (H : Type) → List (DataW H) → Bool := fun _ ds => decide (uptoBulkAll ds ≤ 1048576)
def OpenSpec.upto (s : _root_.Go.ChangeSpec) : _root_.Go.OpenSpec := { _root_.Go.OpenSpec.ofChange s with cond := some uptoSmall }

/-- 'laws.FnExactFillBound', WHERE WHAT IT READS IS OF BULK AT MOST 1048576: true; the input reads as it did. -/
def fnExactFillBoundUptoRow : OpenClaim := { program := "ytkjmakddpacffaa", sum := "3876162565afb2534cba5e557f1947ccfd06f51fa5768d0509e49c643c153dbc", func := "loop.example/g00657/laws.FnExactFillBound", spec := "fnExactFillBound", apart := false, narrowed := true }
def FnExactFillBoundUptoSaid : Prop := fnExactFillBoundUptoRow.holds Try.pinned (OpenSpec.upto fnExactFillBoundSpec)

/-- 'laws.FnExactOwnerOf', WHERE WHAT IT READS IS OF BULK AT MOST 1048576: true; the input reads as it did. -/
def fnExactOwnerOfUptoRow : OpenClaim := { program := "ytkjmakddpacffaa", sum := "3876162565afb2534cba5e557f1947ccfd06f51fa5768d0509e49c643c153dbc", func := "loop.example/g00657/laws.FnExactOwnerOf", spec := "fnExactOwnerOf", apart := false, narrowed := true }
def FnExactOwnerOfUptoSaid : Prop := fnExactOwnerOfUptoRow.holds Try.pinned (OpenSpec.upto fnExactOwnerOfSpec)

/-- 'laws.FnExactPlanFault', WHERE WHAT IT READS IS OF BULK AT MOST 1048576: true; the input reads as it did. -/
def fnExactPlanFaultUptoRow : OpenClaim := { program := "ytkjmakddpacffaa", sum := "3876162565afb2534cba5e557f1947ccfd06f51fa5768d0509e49c643c153dbc", func := "loop.example/g00657/laws.FnExactPlanFault", spec := "fnExactPlanFault", apart := false, narrowed := true }
def FnExactPlanFaultUptoSaid : Prop := fnExactPlanFaultUptoRow.holds Try.pinned (OpenSpec.upto fnExactPlanFaultSpec)

/-- 'laws.FnExactPulsesFor', WHERE WHAT IT READS IS OF BULK AT MOST 1048576: true; the input reads as it did. -/
def fnExactPulsesForUptoRow : OpenClaim := { program := "ytkjmakddpacffaa", sum := "3876162565afb2534cba5e557f1947ccfd06f51fa5768d0509e49c643c153dbc", func := "loop.example/g00657/laws.FnExactPulsesFor", spec := "fnExactPulsesFor", apart := false, narrowed := true }
def FnExactPulsesForUptoSaid : Prop := fnExactPulsesForUptoRow.holds Try.pinned (OpenSpec.upto fnExactPulsesForSpec)

/-- 'laws.FnExactLowCount', WHERE WHAT IT READS IS OF BULK AT MOST 1048576: true; the input reads as it did. -/
def fnExactLowCountUptoRow : OpenClaim := { program := "ytkjmakddpacffaa", sum := "3876162565afb2534cba5e557f1947ccfd06f51fa5768d0509e49c643c153dbc", func := "loop.example/g00657/laws.FnExactLowCount", spec := "fnExactLowCount", apart := false, narrowed := true }
def FnExactLowCountUptoSaid : Prop := fnExactLowCountUptoRow.holds Try.pinned (OpenSpec.upto fnExactLowCountSpec)

/-- 'laws.FnExactShapeBound', WHERE WHAT IT READS IS OF BULK AT MOST 1048576: true; the input reads as it did. -/
def fnExactShapeBoundUptoRow : OpenClaim := { program := "ytkjmakddpacffaa", sum := "3876162565afb2534cba5e557f1947ccfd06f51fa5768d0509e49c643c153dbc", func := "loop.example/g00657/laws.FnExactShapeBound", spec := "fnExactShapeBound", apart := false, narrowed := true }
def FnExactShapeBoundUptoSaid : Prop := fnExactShapeBoundUptoRow.holds Try.pinned (OpenSpec.upto fnExactShapeBoundSpec)

/-- 'laws.FnExactGainRung', WHERE WHAT IT READS IS OF BULK AT MOST 1048576: true; the input reads as it did. -/
def fnExactGainRungUptoRow : OpenClaim := { program := "ytkjmakddpacffaa", sum := "3876162565afb2534cba5e557f1947ccfd06f51fa5768d0509e49c643c153dbc", func := "loop.example/g00657/laws.FnExactGainRung", spec := "fnExactGainRung", apart := false, narrowed := true }
def FnExactGainRungUptoSaid : Prop := fnExactGainRungUptoRow.holds Try.pinned (OpenSpec.upto fnExactGainRungSpec)

/-- 'laws.FnExactSideIndex', WHERE WHAT IT READS IS OF BULK AT MOST 1048576: true; the input reads as it did. -/
def fnExactSideIndexUptoRow : OpenClaim := { program := "ytkjmakddpacffaa", sum := "3876162565afb2534cba5e557f1947ccfd06f51fa5768d0509e49c643c153dbc", func := "loop.example/g00657/laws.FnExactSideIndex", spec := "fnExactSideIndex", apart := false, narrowed := true }
def FnExactSideIndexUptoSaid : Prop := fnExactSideIndexUptoRow.holds Try.pinned (OpenSpec.upto fnExactSideIndexSpec)

/-- 'laws.FnExactSpreadOf', WHERE WHAT IT READS IS OF BULK AT MOST 1048576: true; the input reads as it did. -/
def fnExactSpreadOfUptoRow : OpenClaim := { program := "ytkjmakddpacffaa", sum := "3876162565afb2534cba5e557f1947ccfd06f51fa5768d0509e49c643c153dbc", func := "loop.example/g00657/laws.FnExactSpreadOf", spec := "fnExactSpreadOf", apart := false, narrowed := true }
def FnExactSpreadOfUptoSaid : Prop := fnExactSpreadOfUptoRow.holds Try.pinned (OpenSpec.upto fnExactSpreadOfSpec)

/-- 'laws.FnExactStepOf', WHERE WHAT IT READS IS OF BULK AT MOST 1048576: true; the input reads as it did. -/
def fnExactStepOfUptoRow : OpenClaim := { program := "ytkjmakddpacffaa", sum := "3876162565afb2534cba5e557f1947ccfd06f51fa5768d0509e49c643c153dbc", func := "loop.example/g00657/laws.FnExactStepOf", spec := "fnExactStepOf", apart := false, narrowed := true }
def FnExactStepOfUptoSaid : Prop := fnExactStepOfUptoRow.holds Try.pinned (OpenSpec.upto fnExactStepOfSpec)

/-- 'laws.FnExactRestore', WHERE WHAT IT READS IS OF BULK AT MOST 1048576: true; the input reads as it did. -/
def fnExactRestoreUptoRow : OpenClaim := { program := "ytkjmakddpacffaa", sum := "3876162565afb2534cba5e557f1947ccfd06f51fa5768d0509e49c643c153dbc", func := "loop.example/g00657/laws.FnExactRestore", spec := "fnExactRestore", apart := false, narrowed := true }
def FnExactRestoreUptoSaid : Prop := fnExactRestoreUptoRow.holds Try.pinned (OpenSpec.upto fnExactRestoreSpec)

/-- 'laws.FnExactHalfStep', WHERE WHAT IT READS IS OF BULK AT MOST 1048576: true; the input reads as it did. -/
def fnExactHalfStepUptoRow : OpenClaim := { program := "ytkjmakddpacffaa", sum := "3876162565afb2534cba5e557f1947ccfd06f51fa5768d0509e49c643c153dbc", func := "loop.example/g00657/laws.FnExactHalfStep", spec := "fnExactHalfStep", apart := false, narrowed := true }
def FnExactHalfStepUptoSaid : Prop := fnExactHalfStepUptoRow.holds Try.pinned (OpenSpec.upto fnExactHalfStepSpec)

end Rows
end Go.Proofs.Ytkjmakddpacffaa
