/-
  No cell of these rows narrows 'for every input' (looked for: loops, veiled, ifaces, maps, wideKeys, modest, calm, conditions, laid).
  DERIVED. THE GIVEN ROWS OF THIS SEAT. 12 by the template 'for every input the law returns true; each argument reads behind the call as it read before'; 0 by the template 'total and deterministic' (their statements: YtoepnammegcjeaaTotals.lean).
  GIVEN WITH THE SEED: the statements are not yours to turn. If you find one false, say at which input.
  Laid BY PROGRAM, IN A SANDBOX (cutbox-rows.mjs): the forced cells as the released guide's own fill.sh prints them over the translation d06955364e7cf205… (all of the seat's roots in one cut). By AI agents, Wed Nov 11 2026. No macro, syntax, notation, axiom, sorry.
-/
import Derived.Test.YtoepnammegcjeaaChecked
import GoSem.Claim
import GoSem.ClaimJoined
import GoSem.ClaimMapViews
import Derived.JoinedTies
import Derived.KernelRfl
namespace Go.Proofs.Ytoepnammegcjeaa
/- THE CELL 'sum', in the pinned program and in every row, IS THE sha256 OF THE DUMP (.gsa) THAT YtoepnammegcjeaaProg.lean LOADS. Nothing in Lean hashes anything: it is a label: what it is worth is what the hold of that sum in a sandbox is worth. -/
noncomputable def Try.pinned : Pinned := { name := "ytoepnammegcjeaa", sum := "d06955364e7cf205ea4395071aa13941c257174913f25c35e3de16a7b3b8963b", checked := Try.checked }
namespace Rows
def none {H : Type} : Left H := { results := [], args := [] }

/-- 'laws.FnFills': WHATEVER THE INPUT: true; the input reads as it did. -/
def fnFillsSpec : ChangeSpec := { name := "fnFills", fn := fun _ => fun
  | [d] => { results := [.lit (.bool true)], args := [d] }
  | _ => none }
def fnFillsRow : OpenClaim := { program := "ytoepnammegcjeaa", sum := "d06955364e7cf205ea4395071aa13941c257174913f25c35e3de16a7b3b8963b", func := "loop.example/g00657/laws.FnFills", spec := "fnFills", unfollowed := true, recurses := true, apart := false }
def FnFillsSaid : Prop := fnFillsRow.holds Try.pinned (OpenSpec.ofChange fnFillsSpec)

/-- ITS FALSE NEIGHBOUR: 'it returns false'. Refute it at one input. -/
def fnFillsWrong : ChangeSpec := { name := "fnFills", fn := fun _ => fun
  | [d] => { results := [.lit (.bool false)], args := [d] }
  | _ => none }
def FnFillsWrongFalsely : Prop := fnFillsRow.holds Try.pinned (OpenSpec.ofChange fnFillsWrong)

/-- 'laws.FnExactPulsesAt': WHATEVER THE INPUT: true; the input reads as it did. -/
def fnExactPulsesAtSpec : ChangeSpec := { name := "fnExactPulsesAt", fn := fun _ => fun
  | [d1, d2, d3] => { results := [.lit (.bool true)], args := [d1, d2, d3] }
  | _ => none }
def fnExactPulsesAtRow : OpenClaim := { program := "ytoepnammegcjeaa", sum := "d06955364e7cf205ea4395071aa13941c257174913f25c35e3de16a7b3b8963b", func := "loop.example/g00657/laws.FnExactPulsesAt", spec := "fnExactPulsesAt", recurses := true, apart := false }
def FnExactPulsesAtSaid : Prop := fnExactPulsesAtRow.holds Try.pinned (OpenSpec.ofChange fnExactPulsesAtSpec)

/-- ITS FALSE NEIGHBOUR: 'it returns false'. Refute it at one input. -/
def fnExactPulsesAtWrong : ChangeSpec := { name := "fnExactPulsesAt", fn := fun _ => fun
  | [d1, d2, d3] => { results := [.lit (.bool false)], args := [d1, d2, d3] }
  | _ => none }
def FnExactPulsesAtWrongFalsely : Prop := fnExactPulsesAtRow.holds Try.pinned (OpenSpec.ofChange fnExactPulsesAtWrong)

/-- 'laws.FnExactCellOf': WHATEVER THE INPUT: true; the input reads as it did. -/
def fnExactCellOfSpec : ChangeSpec := { name := "fnExactCellOf", fn := fun _ => fun
  | [d1, d2, d3, d4] => { results := [.lit (.bool true)], args := [d1, d2, d3, d4] }
  | _ => none }
def fnExactCellOfRow : OpenClaim := { program := "ytoepnammegcjeaa", sum := "d06955364e7cf205ea4395071aa13941c257174913f25c35e3de16a7b3b8963b", func := "loop.example/g00657/laws.FnExactCellOf", spec := "fnExactCellOf", apart := false }
def FnExactCellOfSaid : Prop := fnExactCellOfRow.holds Try.pinned (OpenSpec.ofChange fnExactCellOfSpec)

/-- ITS FALSE NEIGHBOUR: 'it returns false'. Refute it at one input. -/
def fnExactCellOfWrong : ChangeSpec := { name := "fnExactCellOf", fn := fun _ => fun
  | [d1, d2, d3, d4] => { results := [.lit (.bool false)], args := [d1, d2, d3, d4] }
  | _ => none }
def FnExactCellOfWrongFalsely : Prop := fnExactCellOfRow.holds Try.pinned (OpenSpec.ofChange fnExactCellOfWrong)

/-- 'laws.FnExactMaskOf': WHATEVER THE INPUT: true; the input reads as it did. -/
def fnExactMaskOfSpec : ChangeSpec := { name := "fnExactMaskOf", fn := fun _ => fun
  | [d1, d2] => { results := [.lit (.bool true)], args := [d1, d2] }
  | _ => none }
def fnExactMaskOfRow : OpenClaim := { program := "ytoepnammegcjeaa", sum := "d06955364e7cf205ea4395071aa13941c257174913f25c35e3de16a7b3b8963b", func := "loop.example/g00657/laws.FnExactMaskOf", spec := "fnExactMaskOf", unfollowed := true, recurses := true, apart := false }
def FnExactMaskOfSaid : Prop := fnExactMaskOfRow.holds Try.pinned (OpenSpec.ofChange fnExactMaskOfSpec)

/-- ITS FALSE NEIGHBOUR: 'it returns false'. Refute it at one input. -/
def fnExactMaskOfWrong : ChangeSpec := { name := "fnExactMaskOf", fn := fun _ => fun
  | [d1, d2] => { results := [.lit (.bool false)], args := [d1, d2] }
  | _ => none }
def FnExactMaskOfWrongFalsely : Prop := fnExactMaskOfRow.holds Try.pinned (OpenSpec.ofChange fnExactMaskOfWrong)

/-- 'laws.FnExactFinestRung': WHATEVER THE INPUT: true; the input reads as it did. -/
def fnExactFinestRungSpec : ChangeSpec := { name := "fnExactFinestRung", fn := fun _ => fun
  | [d1, d2] => { results := [.lit (.bool true)], args := [d1, d2] }
  | _ => none }
def fnExactFinestRungRow : OpenClaim := { program := "ytoepnammegcjeaa", sum := "d06955364e7cf205ea4395071aa13941c257174913f25c35e3de16a7b3b8963b", func := "loop.example/g00657/laws.FnExactFinestRung", spec := "fnExactFinestRung", unfollowed := true, recurses := true, apart := false }
def FnExactFinestRungSaid : Prop := fnExactFinestRungRow.holds Try.pinned (OpenSpec.ofChange fnExactFinestRungSpec)

/-- ITS FALSE NEIGHBOUR: 'it returns false'. Refute it at one input. -/
def fnExactFinestRungWrong : ChangeSpec := { name := "fnExactFinestRung", fn := fun _ => fun
  | [d1, d2] => { results := [.lit (.bool false)], args := [d1, d2] }
  | _ => none }
def FnExactFinestRungWrongFalsely : Prop := fnExactFinestRungRow.holds Try.pinned (OpenSpec.ofChange fnExactFinestRungWrong)

/-- 'laws.FnExactReadHead': WHATEVER THE INPUT: true; the input reads as it did. -/
def fnExactReadHeadSpec : ChangeSpec := { name := "fnExactReadHead", fn := fun _ => fun
  | [d] => { results := [.lit (.bool true)], args := [d] }
  | _ => none }
def fnExactReadHeadRow : OpenClaim := { program := "ytoepnammegcjeaa", sum := "d06955364e7cf205ea4395071aa13941c257174913f25c35e3de16a7b3b8963b", func := "loop.example/g00657/laws.FnExactReadHead", spec := "fnExactReadHead", apart := false }
def FnExactReadHeadSaid : Prop := fnExactReadHeadRow.holds Try.pinned (OpenSpec.ofChange fnExactReadHeadSpec)

/-- ITS FALSE NEIGHBOUR: 'it returns false'. Refute it at one input. -/
def fnExactReadHeadWrong : ChangeSpec := { name := "fnExactReadHead", fn := fun _ => fun
  | [d] => { results := [.lit (.bool false)], args := [d] }
  | _ => none }
def FnExactReadHeadWrongFalsely : Prop := fnExactReadHeadRow.holds Try.pinned (OpenSpec.ofChange fnExactReadHeadWrong)

/-- 'laws.FnExactSameFrames': WHATEVER THE INPUT: true; the input reads as it did. -/
def fnExactSameFramesSpec : ChangeSpec := { name := "fnExactSameFrames", fn := fun _ => fun
  | [d1, d2] => { results := [.lit (.bool true)], args := [d1, d2] }
  | _ => none }
def fnExactSameFramesRow : OpenClaim := { program := "ytoepnammegcjeaa", sum := "d06955364e7cf205ea4395071aa13941c257174913f25c35e3de16a7b3b8963b", func := "loop.example/g00657/laws.FnExactSameFrames", spec := "fnExactSameFrames", unfollowed := true, recurses := true, apart := false }
def FnExactSameFramesSaid : Prop := fnExactSameFramesRow.holds Try.pinned (OpenSpec.ofChange fnExactSameFramesSpec)

/-- ITS FALSE NEIGHBOUR: 'it returns false'. Refute it at one input. -/
def fnExactSameFramesWrong : ChangeSpec := { name := "fnExactSameFrames", fn := fun _ => fun
  | [d1, d2] => { results := [.lit (.bool false)], args := [d1, d2] }
  | _ => none }
def FnExactSameFramesWrongFalsely : Prop := fnExactSameFramesRow.holds Try.pinned (OpenSpec.ofChange fnExactSameFramesWrong)

/-- 'laws.FnExactIndexPulses': WHATEVER THE INPUT: true; the input reads as it did. -/
def fnExactIndexPulsesSpec : ChangeSpec := { name := "fnExactIndexPulses", fn := fun _ => fun
  | [d1, d2] => { results := [.lit (.bool true)], args := [d1, d2] }
  | _ => none }
def fnExactIndexPulsesRow : OpenClaim := { program := "ytoepnammegcjeaa", sum := "d06955364e7cf205ea4395071aa13941c257174913f25c35e3de16a7b3b8963b", func := "loop.example/g00657/laws.FnExactIndexPulses", spec := "fnExactIndexPulses", unfollowed := true, recurses := true, apart := false }
def FnExactIndexPulsesSaid : Prop := fnExactIndexPulsesRow.holds Try.pinned (OpenSpec.ofChange fnExactIndexPulsesSpec)

/-- ITS FALSE NEIGHBOUR: 'it returns false'. Refute it at one input. -/
def fnExactIndexPulsesWrong : ChangeSpec := { name := "fnExactIndexPulses", fn := fun _ => fun
  | [d1, d2] => { results := [.lit (.bool false)], args := [d1, d2] }
  | _ => none }
def FnExactIndexPulsesWrongFalsely : Prop := fnExactIndexPulsesRow.holds Try.pinned (OpenSpec.ofChange fnExactIndexPulsesWrong)

/-- 'laws.FnExactSameParts': WHATEVER THE INPUT: true; the input reads as it did. -/
def fnExactSamePartsSpec : ChangeSpec := { name := "fnExactSameParts", fn := fun _ => fun
  | [d1, d2] => { results := [.lit (.bool true)], args := [d1, d2] }
  | _ => none }
def fnExactSamePartsRow : OpenClaim := { program := "ytoepnammegcjeaa", sum := "d06955364e7cf205ea4395071aa13941c257174913f25c35e3de16a7b3b8963b", func := "loop.example/g00657/laws.FnExactSameParts", spec := "fnExactSameParts", unfollowed := true, recurses := true, apart := false }
def FnExactSamePartsSaid : Prop := fnExactSamePartsRow.holds Try.pinned (OpenSpec.ofChange fnExactSamePartsSpec)

/-- ITS FALSE NEIGHBOUR: 'it returns false'. Refute it at one input. -/
def fnExactSamePartsWrong : ChangeSpec := { name := "fnExactSameParts", fn := fun _ => fun
  | [d1, d2] => { results := [.lit (.bool false)], args := [d1, d2] }
  | _ => none }
def FnExactSamePartsWrongFalsely : Prop := fnExactSamePartsRow.holds Try.pinned (OpenSpec.ofChange fnExactSamePartsWrong)

/-- 'laws.FnExactShapeOf': WHATEVER THE INPUT: true; the input reads as it did. -/
def fnExactShapeOfSpec : ChangeSpec := { name := "fnExactShapeOf", fn := fun _ => fun
  | [d1, d2, d3] => { results := [.lit (.bool true)], args := [d1, d2, d3] }
  | _ => none }
def fnExactShapeOfRow : OpenClaim := { program := "ytoepnammegcjeaa", sum := "d06955364e7cf205ea4395071aa13941c257174913f25c35e3de16a7b3b8963b", func := "loop.example/g00657/laws.FnExactShapeOf", spec := "fnExactShapeOf", unfollowed := true, recurses := true, apart := false }
def FnExactShapeOfSaid : Prop := fnExactShapeOfRow.holds Try.pinned (OpenSpec.ofChange fnExactShapeOfSpec)

/-- ITS FALSE NEIGHBOUR: 'it returns false'. Refute it at one input. -/
def fnExactShapeOfWrong : ChangeSpec := { name := "fnExactShapeOf", fn := fun _ => fun
  | [d1, d2, d3] => { results := [.lit (.bool false)], args := [d1, d2, d3] }
  | _ => none }
def FnExactShapeOfWrongFalsely : Prop := fnExactShapeOfRow.holds Try.pinned (OpenSpec.ofChange fnExactShapeOfWrong)

/-- 'laws.FnFinest': WHATEVER THE INPUT: true; the input reads as it did. -/
def fnFinestSpec : ChangeSpec := { name := "fnFinest", fn := fun _ => fun
  | [d] => { results := [.lit (.bool true)], args := [d] }
  | _ => none }
def fnFinestRow : OpenClaim := { program := "ytoepnammegcjeaa", sum := "d06955364e7cf205ea4395071aa13941c257174913f25c35e3de16a7b3b8963b", func := "loop.example/g00657/laws.FnFinest", spec := "fnFinest", unfollowed := true, recurses := true, apart := false }
def FnFinestSaid : Prop := fnFinestRow.holds Try.pinned (OpenSpec.ofChange fnFinestSpec)

/-- ITS FALSE NEIGHBOUR: 'it returns false'. Refute it at one input. -/
def fnFinestWrong : ChangeSpec := { name := "fnFinest", fn := fun _ => fun
  | [d] => { results := [.lit (.bool false)], args := [d] }
  | _ => none }
def FnFinestWrongFalsely : Prop := fnFinestRow.holds Try.pinned (OpenSpec.ofChange fnFinestWrong)

/-- 'laws.FnExactSameSenders': WHATEVER THE INPUT: true; the input reads as it did. -/
def fnExactSameSendersSpec : ChangeSpec := { name := "fnExactSameSenders", fn := fun _ => fun
  | [d1, d2] => { results := [.lit (.bool true)], args := [d1, d2] }
  | _ => none }
def fnExactSameSendersRow : OpenClaim := { program := "ytoepnammegcjeaa", sum := "d06955364e7cf205ea4395071aa13941c257174913f25c35e3de16a7b3b8963b", func := "loop.example/g00657/laws.FnExactSameSenders", spec := "fnExactSameSenders", apart := false }
def FnExactSameSendersSaid : Prop := fnExactSameSendersRow.holds Try.pinned (OpenSpec.ofChange fnExactSameSendersSpec)

/-- ITS FALSE NEIGHBOUR: 'it returns false'. Refute it at one input. -/
def fnExactSameSendersWrong : ChangeSpec := { name := "fnExactSameSenders", fn := fun _ => fun
  | [d1, d2] => { results := [.lit (.bool false)], args := [d1, d2] }
  | _ => none }
def FnExactSameSendersWrongFalsely : Prop := fnExactSameSendersRow.holds Try.pinned (OpenSpec.ofChange fnExactSameSendersWrong)

/- THE SECOND FORM. 'bulk': how many values and letters a reading holds, each counted each time it is reached (what is shared counts as often as it is met; a slice's spare places count too). A statement '..UptoSaid' is the law's where the arguments, and the package variables that the reading takes, are together of bulk at most 1048576: NARROWER than '..Said'. Prove '..Said' where nothing that the law and all that it calls make is longer than what came in: it says more and counts as full. Else prove '..UptoSaid'. A law counts once. -/
mutual
def uptoBulk {H : Type} : DataW H → Nat
  | .lit (.string bytes) => bytes.length + 1
  | .lit _ => 1
  | .nil => 1
  | .ptr d => uptoBulk d + 1
  | .slice elems spare => uptoBulkAll elems + uptoBulkAll spare + 1
  | .agg parts => uptoBulkAll parts + 1
  | .iface _ d => uptoBulk d + 1
  | .map entries => uptoBulkEntries entries + 1
  | .held _ => 1
def uptoBulkAll {H : Type} : List (DataW H) → Nat
  | [] => 0
  | d :: r => uptoBulk d + uptoBulkAll r
def uptoBulkEntries {H : Type} : List (Lit × DataW H) → Nat
  | [] => 0
  | x :: r => uptoBulkEntry x + uptoBulkEntries r
def uptoBulkEntry {H : Type} : Lit × DataW H → Nat
  | (.string bytes, d) => bytes.length + uptoBulk d + 1
  | (_, d) => uptoBulk d + 1
 end
def uptoSmall : (H : Type) → List (DataW H) → Bool := fun _ ds => decide (uptoBulkAll ds ≤ 1048576)
def OpenSpec.upto (s : _root_.Go.ChangeSpec) : _root_.Go.OpenSpec := { _root_.Go.OpenSpec.ofChange s with cond := some uptoSmall }

/-- 'laws.FnFills', WHERE WHAT IT READS IS OF BULK AT MOST 1048576: true; the input reads as it did. -/
def fnFillsUptoRow : OpenClaim := { program := "ytoepnammegcjeaa", sum := "d06955364e7cf205ea4395071aa13941c257174913f25c35e3de16a7b3b8963b", func := "loop.example/g00657/laws.FnFills", spec := "fnFills", unfollowed := true, recurses := true, apart := false, narrowed := true }
def FnFillsUptoSaid : Prop := fnFillsUptoRow.holds Try.pinned (OpenSpec.upto fnFillsSpec)

/-- 'laws.FnExactPulsesAt', WHERE WHAT IT READS IS OF BULK AT MOST 1048576: true; the input reads as it did. -/
def fnExactPulsesAtUptoRow : OpenClaim := { program := "ytoepnammegcjeaa", sum := "d06955364e7cf205ea4395071aa13941c257174913f25c35e3de16a7b3b8963b", func := "loop.example/g00657/laws.FnExactPulsesAt", spec := "fnExactPulsesAt", recurses := true, apart := false, narrowed := true }
def FnExactPulsesAtUptoSaid : Prop := fnExactPulsesAtUptoRow.holds Try.pinned (OpenSpec.upto fnExactPulsesAtSpec)

/-- 'laws.FnExactCellOf', WHERE WHAT IT READS IS OF BULK AT MOST 1048576: true; the input reads as it did. -/
def fnExactCellOfUptoRow : OpenClaim := { program := "ytoepnammegcjeaa", sum := "d06955364e7cf205ea4395071aa13941c257174913f25c35e3de16a7b3b8963b", func := "loop.example/g00657/laws.FnExactCellOf", spec := "fnExactCellOf", apart := false, narrowed := true }
def FnExactCellOfUptoSaid : Prop := fnExactCellOfUptoRow.holds Try.pinned (OpenSpec.upto fnExactCellOfSpec)

/-- 'laws.FnExactMaskOf', WHERE WHAT IT READS IS OF BULK AT MOST 1048576: true; the input reads as it did. -/
def fnExactMaskOfUptoRow : OpenClaim := { program := "ytoepnammegcjeaa", sum := "d06955364e7cf205ea4395071aa13941c257174913f25c35e3de16a7b3b8963b", func := "loop.example/g00657/laws.FnExactMaskOf", spec := "fnExactMaskOf", unfollowed := true, recurses := true, apart := false, narrowed := true }
def FnExactMaskOfUptoSaid : Prop := fnExactMaskOfUptoRow.holds Try.pinned (OpenSpec.upto fnExactMaskOfSpec)

/-- 'laws.FnExactFinestRung', WHERE WHAT IT READS IS OF BULK AT MOST 1048576: true; the input reads as it did. -/
def fnExactFinestRungUptoRow : OpenClaim := { program := "ytoepnammegcjeaa", sum := "d06955364e7cf205ea4395071aa13941c257174913f25c35e3de16a7b3b8963b", func := "loop.example/g00657/laws.FnExactFinestRung", spec := "fnExactFinestRung", unfollowed := true, recurses := true, apart := false, narrowed := true }
def FnExactFinestRungUptoSaid : Prop := fnExactFinestRungUptoRow.holds Try.pinned (OpenSpec.upto fnExactFinestRungSpec)

/-- 'laws.FnExactReadHead', WHERE WHAT IT READS IS OF BULK AT MOST 1048576: true; the input reads as it did. -/
def fnExactReadHeadUptoRow : OpenClaim := { program := "ytoepnammegcjeaa", sum := "d06955364e7cf205ea4395071aa13941c257174913f25c35e3de16a7b3b8963b", func := "loop.example/g00657/laws.FnExactReadHead", spec := "fnExactReadHead", apart := false, narrowed := true }
def FnExactReadHeadUptoSaid : Prop := fnExactReadHeadUptoRow.holds Try.pinned (OpenSpec.upto fnExactReadHeadSpec)

/-- 'laws.FnExactSameFrames', WHERE WHAT IT READS IS OF BULK AT MOST 1048576: true; the input reads as it did. -/
def fnExactSameFramesUptoRow : OpenClaim := { program := "ytoepnammegcjeaa", sum := "d06955364e7cf205ea4395071aa13941c257174913f25c35e3de16a7b3b8963b", func := "loop.example/g00657/laws.FnExactSameFrames", spec := "fnExactSameFrames", unfollowed := true, recurses := true, apart := false, narrowed := true }
def FnExactSameFramesUptoSaid : Prop := fnExactSameFramesUptoRow.holds Try.pinned (OpenSpec.upto fnExactSameFramesSpec)

/-- 'laws.FnExactIndexPulses', WHERE WHAT IT READS IS OF BULK AT MOST 1048576: true; the input reads as it did. -/
def fnExactIndexPulsesUptoRow : OpenClaim := { program := "ytoepnammegcjeaa", sum := "d06955364e7cf205ea4395071aa13941c257174913f25c35e3de16a7b3b8963b", func := "loop.example/g00657/laws.FnExactIndexPulses", spec := "fnExactIndexPulses", unfollowed := true, recurses := true, apart := false, narrowed := true }
def FnExactIndexPulsesUptoSaid : Prop := fnExactIndexPulsesUptoRow.holds Try.pinned (OpenSpec.upto fnExactIndexPulsesSpec)

/-- 'laws.FnExactSameParts', WHERE WHAT IT READS IS OF BULK AT MOST 1048576: true; the input reads as it did. -/
def fnExactSamePartsUptoRow : OpenClaim := { program := "ytoepnammegcjeaa", sum := "d06955364e7cf205ea4395071aa13941c257174913f25c35e3de16a7b3b8963b", func := "loop.example/g00657/laws.FnExactSameParts", spec := "fnExactSameParts", unfollowed := true, recurses := true, apart := false, narrowed := true }
def FnExactSamePartsUptoSaid : Prop := fnExactSamePartsUptoRow.holds Try.pinned (OpenSpec.upto fnExactSamePartsSpec)

/-- 'laws.FnExactShapeOf', WHERE WHAT IT READS IS OF BULK AT MOST 1048576: true; the input reads as it did. -/
def fnExactShapeOfUptoRow : OpenClaim := { program := "ytoepnammegcjeaa", sum := "d06955364e7cf205ea4395071aa13941c257174913f25c35e3de16a7b3b8963b", func := "loop.example/g00657/laws.FnExactShapeOf", spec := "fnExactShapeOf", unfollowed := true, recurses := true, apart := false, narrowed := true }
def FnExactShapeOfUptoSaid : Prop := fnExactShapeOfUptoRow.holds Try.pinned (OpenSpec.upto fnExactShapeOfSpec)

/-- 'laws.FnFinest', WHERE WHAT IT READS IS OF BULK AT MOST 1048576: true; the input reads as it did. -/
def fnFinestUptoRow : OpenClaim := { program := "ytoepnammegcjeaa", sum := "d06955364e7cf205ea4395071aa13941c257174913f25c35e3de16a7b3b8963b", func := "loop.example/g00657/laws.FnFinest", spec := "fnFinest", unfollowed := true, recurses := true, apart := false, narrowed := true }
def FnFinestUptoSaid : Prop := fnFinestUptoRow.holds Try.pinned (OpenSpec.upto fnFinestSpec)

/-- 'laws.FnExactSameSenders', WHERE WHAT IT READS IS OF BULK AT MOST 1048576: true; the input reads as it did. -/
def fnExactSameSendersUptoRow : OpenClaim := { program := "ytoepnammegcjeaa", sum := "d06955364e7cf205ea4395071aa13941c257174913f25c35e3de16a7b3b8963b", func := "loop.example/g00657/laws.FnExactSameSenders", spec := "fnExactSameSenders", apart := false, narrowed := true }
def FnExactSameSendersUptoSaid : Prop := fnExactSameSendersUptoRow.holds Try.pinned (OpenSpec.upto fnExactSameSendersSpec)

end Rows
end Go.Proofs.Ytoepnammegcjeaa
