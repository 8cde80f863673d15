/-
  No cell of these rows narrows 'for every input' (looked for: loops, veiled, ifaces, maps, wideKeys, modest, calm, conditions, laid).
  DERIVED. THE GIVEN ROWS OF THIS SEAT. 12 by the template 'for every input the law returns true; each argument reads behind the call as it read before'; 0 by the template 'total and deterministic' (their statements: YtpbkbibjlbbkbaaTotals.lean).
  GIVEN WITH THE SEED: the statements are not yours to turn. If you find one false, say at which input.
  Laid BY PROGRAM, IN A SANDBOX (cutbox-rows.mjs): the forced cells as the released guide's own fill.sh prints them over the translation 3d7089984cd3dadf… (all of the seat's roots in one cut). By AI agents, Wed Nov 11 2026. No macro, syntax, notation, axiom, sorry.
-/
import Derived.Test.YtpbkbibjlbbkbaaChecked
import GoSem.Claim
import GoSem.ClaimJoined
import GoSem.ClaimMapViews
import Derived.JoinedTies
import Derived.KernelRfl
namespace Go.Proofs.Ytpbkbibjlbbkbaa
/- THE CELL 'sum', in the pinned program and in every row, IS THE sha256 OF THE DUMP (.gsa) THAT YtpbkbibjlbbkbaaProg.lean LOADS. Nothing in Lean hashes anything: it is a label: what it is worth is what the hold of that sum in a sandbox is worth. -/
noncomputable def Try.pinned : Pinned := { name := "ytpbkbibjlbbkbaa", sum := "3d7089984cd3dadf5affd8d8d884c7aa185f36de010463fe662b474d53a91dab", checked := Try.checked }
namespace Rows
def none {H : Type} : Left H := { results := [], args := [] }

/-- 'laws.FnCells': WHATEVER THE INPUT: true; the input reads as it did. -/
def fnCellsSpec : ChangeSpec := { name := "fnCells", fn := fun _ => fun
  | [d] => { results := [.lit (.bool true)], args := [d] }
  | _ => none }
def fnCellsRow : OpenClaim := { program := "ytpbkbibjlbbkbaa", sum := "3d7089984cd3dadf5affd8d8d884c7aa185f36de010463fe662b474d53a91dab", func := "loop.example/g00657/laws.FnCells", spec := "fnCells", apart := false }
def FnCellsSaid : Prop := fnCellsRow.holds Try.pinned (OpenSpec.ofChange fnCellsSpec)

/-- ITS FALSE NEIGHBOUR: 'it returns false'. Refute it at one input. -/
def fnCellsWrong : ChangeSpec := { name := "fnCells", fn := fun _ => fun
  | [d] => { results := [.lit (.bool false)], args := [d] }
  | _ => none }
def FnCellsWrongFalsely : Prop := fnCellsRow.holds Try.pinned (OpenSpec.ofChange fnCellsWrong)

/-- 'laws.FnExactBandNorms': WHATEVER THE INPUT: true; the input reads as it did. -/
def fnExactBandNormsSpec : ChangeSpec := { name := "fnExactBandNorms", fn := fun _ => fun
  | [d1, d2] => { results := [.lit (.bool true)], args := [d1, d2] }
  | _ => none }
def fnExactBandNormsRow : OpenClaim := { program := "ytpbkbibjlbbkbaa", sum := "3d7089984cd3dadf5affd8d8d884c7aa185f36de010463fe662b474d53a91dab", func := "loop.example/g00657/laws.FnExactBandNorms", spec := "fnExactBandNorms", unfollowed := true, recurses := true, apart := false }
def FnExactBandNormsSaid : Prop := fnExactBandNormsRow.holds Try.pinned (OpenSpec.ofChange fnExactBandNormsSpec)

/-- ITS FALSE NEIGHBOUR: 'it returns false'. Refute it at one input. -/
def fnExactBandNormsWrong : ChangeSpec := { name := "fnExactBandNorms", fn := fun _ => fun
  | [d1, d2] => { results := [.lit (.bool false)], args := [d1, d2] }
  | _ => none }
def FnExactBandNormsWrongFalsely : Prop := fnExactBandNormsRow.holds Try.pinned (OpenSpec.ofChange fnExactBandNormsWrong)

/-- 'laws.FnPairs': WHATEVER THE INPUT: true; the input reads as it did. -/
def fnPairsSpec : ChangeSpec := { name := "fnPairs", fn := fun _ => fun
  | [d] => { results := [.lit (.bool true)], args := [d] }
  | _ => none }
def fnPairsRow : OpenClaim := { program := "ytpbkbibjlbbkbaa", sum := "3d7089984cd3dadf5affd8d8d884c7aa185f36de010463fe662b474d53a91dab", func := "loop.example/g00657/laws.FnPairs", spec := "fnPairs", apart := false }
def FnPairsSaid : Prop := fnPairsRow.holds Try.pinned (OpenSpec.ofChange fnPairsSpec)

/-- ITS FALSE NEIGHBOUR: 'it returns false'. Refute it at one input. -/
def fnPairsWrong : ChangeSpec := { name := "fnPairs", fn := fun _ => fun
  | [d] => { results := [.lit (.bool false)], args := [d] }
  | _ => none }
def FnPairsWrongFalsely : Prop := fnPairsRow.holds Try.pinned (OpenSpec.ofChange fnPairsWrong)

/-- 'laws.FnExactNextPulses': WHATEVER THE INPUT: true; the input reads as it did. -/
def fnExactNextPulsesSpec : ChangeSpec := { name := "fnExactNextPulses", fn := fun _ => fun
  | [d1, d2] => { results := [.lit (.bool true)], args := [d1, d2] }
  | _ => none }
def fnExactNextPulsesRow : OpenClaim := { program := "ytpbkbibjlbbkbaa", sum := "3d7089984cd3dadf5affd8d8d884c7aa185f36de010463fe662b474d53a91dab", func := "loop.example/g00657/laws.FnExactNextPulses", spec := "fnExactNextPulses", unfollowed := true, recurses := true, apart := false }
def FnExactNextPulsesSaid : Prop := fnExactNextPulsesRow.holds Try.pinned (OpenSpec.ofChange fnExactNextPulsesSpec)

/-- ITS FALSE NEIGHBOUR: 'it returns false'. Refute it at one input. -/
def fnExactNextPulsesWrong : ChangeSpec := { name := "fnExactNextPulses", fn := fun _ => fun
  | [d1, d2] => { results := [.lit (.bool false)], args := [d1, d2] }
  | _ => none }
def FnExactNextPulsesWrongFalsely : Prop := fnExactNextPulsesRow.holds Try.pinned (OpenSpec.ofChange fnExactNextPulsesWrong)

/-- 'laws.FnPulses': WHATEVER THE INPUT: true; the input reads as it did. -/
def fnPulsesSpec : ChangeSpec := { name := "fnPulses", fn := fun _ => fun
  | [d] => { results := [.lit (.bool true)], args := [d] }
  | _ => none }
def fnPulsesRow : OpenClaim := { program := "ytpbkbibjlbbkbaa", sum := "3d7089984cd3dadf5affd8d8d884c7aa185f36de010463fe662b474d53a91dab", func := "loop.example/g00657/laws.FnPulses", spec := "fnPulses", unfollowed := true, recurses := true, apart := false }
def FnPulsesSaid : Prop := fnPulsesRow.holds Try.pinned (OpenSpec.ofChange fnPulsesSpec)

/-- ITS FALSE NEIGHBOUR: 'it returns false'. Refute it at one input. -/
def fnPulsesWrong : ChangeSpec := { name := "fnPulses", fn := fun _ => fun
  | [d] => { results := [.lit (.bool false)], args := [d] }
  | _ => none }
def FnPulsesWrongFalsely : Prop := fnPulsesRow.holds Try.pinned (OpenSpec.ofChange fnPulsesWrong)

/-- 'laws.FnExactSearchPulses': WHATEVER THE INPUT: true; the input reads as it did. -/
def fnExactSearchPulsesSpec : ChangeSpec := { name := "fnExactSearchPulses", fn := fun _ => fun
  | [d1, d2] => { results := [.lit (.bool true)], args := [d1, d2] }
  | _ => none }
def fnExactSearchPulsesRow : OpenClaim := { program := "ytpbkbibjlbbkbaa", sum := "3d7089984cd3dadf5affd8d8d884c7aa185f36de010463fe662b474d53a91dab", func := "loop.example/g00657/laws.FnExactSearchPulses", spec := "fnExactSearchPulses", unfollowed := true, recurses := true, apart := false }
def FnExactSearchPulsesSaid : Prop := fnExactSearchPulsesRow.holds Try.pinned (OpenSpec.ofChange fnExactSearchPulsesSpec)

/-- ITS FALSE NEIGHBOUR: 'it returns false'. Refute it at one input. -/
def fnExactSearchPulsesWrong : ChangeSpec := { name := "fnExactSearchPulses", fn := fun _ => fun
  | [d1, d2] => { results := [.lit (.bool false)], args := [d1, d2] }
  | _ => none }
def FnExactSearchPulsesWrongFalsely : Prop := fnExactSearchPulsesRow.holds Try.pinned (OpenSpec.ofChange fnExactSearchPulsesWrong)

/-- 'laws.FnExactFrameFault': WHATEVER THE INPUT: true; the input reads as it did. -/
def fnExactFrameFaultSpec : ChangeSpec := { name := "fnExactFrameFault", fn := fun _ => fun
  | [d] => { results := [.lit (.bool true)], args := [d] }
  | _ => none }
def fnExactFrameFaultRow : OpenClaim := { program := "ytpbkbibjlbbkbaa", sum := "3d7089984cd3dadf5affd8d8d884c7aa185f36de010463fe662b474d53a91dab", func := "loop.example/g00657/laws.FnExactFrameFault", spec := "fnExactFrameFault", unfollowed := true, recurses := true, apart := false }
def FnExactFrameFaultSaid : Prop := fnExactFrameFaultRow.holds Try.pinned (OpenSpec.ofChange fnExactFrameFaultSpec)

/-- ITS FALSE NEIGHBOUR: 'it returns false'. Refute it at one input. -/
def fnExactFrameFaultWrong : ChangeSpec := { name := "fnExactFrameFault", fn := fun _ => fun
  | [d] => { results := [.lit (.bool false)], args := [d] }
  | _ => none }
def FnExactFrameFaultWrongFalsely : Prop := fnExactFrameFaultRow.holds Try.pinned (OpenSpec.ofChange fnExactFrameFaultWrong)

/-- 'laws.FnExactPartFault': WHATEVER THE INPUT: true; the input reads as it did. -/
def fnExactPartFaultSpec : ChangeSpec := { name := "fnExactPartFault", fn := fun _ => fun
  | [d] => { results := [.lit (.bool true)], args := [d] }
  | _ => none }
def fnExactPartFaultRow : OpenClaim := { program := "ytpbkbibjlbbkbaa", sum := "3d7089984cd3dadf5affd8d8d884c7aa185f36de010463fe662b474d53a91dab", func := "loop.example/g00657/laws.FnExactPartFault", spec := "fnExactPartFault", unfollowed := true, recurses := true, apart := false }
def FnExactPartFaultSaid : Prop := fnExactPartFaultRow.holds Try.pinned (OpenSpec.ofChange fnExactPartFaultSpec)

/-- ITS FALSE NEIGHBOUR: 'it returns false'. Refute it at one input. -/
def fnExactPartFaultWrong : ChangeSpec := { name := "fnExactPartFault", fn := fun _ => fun
  | [d] => { results := [.lit (.bool false)], args := [d] }
  | _ => none }
def FnExactPartFaultWrongFalsely : Prop := fnExactPartFaultRow.holds Try.pinned (OpenSpec.ofChange fnExactPartFaultWrong)

/-- 'laws.FnBands': WHATEVER THE INPUT: true; the input reads as it did. -/
def fnBandsSpec : ChangeSpec := { name := "fnBands", fn := fun _ => fun
  | [d] => { results := [.lit (.bool true)], args := [d] }
  | _ => none }
def fnBandsRow : OpenClaim := { program := "ytpbkbibjlbbkbaa", sum := "3d7089984cd3dadf5affd8d8d884c7aa185f36de010463fe662b474d53a91dab", func := "loop.example/g00657/laws.FnBands", spec := "fnBands", unfollowed := true, recurses := true, apart := false }
def FnBandsSaid : Prop := fnBandsRow.holds Try.pinned (OpenSpec.ofChange fnBandsSpec)

/-- ITS FALSE NEIGHBOUR: 'it returns false'. Refute it at one input. -/
def fnBandsWrong : ChangeSpec := { name := "fnBands", fn := fun _ => fun
  | [d] => { results := [.lit (.bool false)], args := [d] }
  | _ => none }
def FnBandsWrongFalsely : Prop := fnBandsRow.holds Try.pinned (OpenSpec.ofChange fnBandsWrong)

/-- 'laws.FnShapes': WHATEVER THE INPUT: true; the input reads as it did. -/
def fnShapesSpec : ChangeSpec := { name := "fnShapes", fn := fun _ => fun
  | [d] => { results := [.lit (.bool true)], args := [d] }
  | _ => none }
def fnShapesRow : OpenClaim := { program := "ytpbkbibjlbbkbaa", sum := "3d7089984cd3dadf5affd8d8d884c7aa185f36de010463fe662b474d53a91dab", func := "loop.example/g00657/laws.FnShapes", spec := "fnShapes", unfollowed := true, recurses := true, apart := false }
def FnShapesSaid : Prop := fnShapesRow.holds Try.pinned (OpenSpec.ofChange fnShapesSpec)

/-- ITS FALSE NEIGHBOUR: 'it returns false'. Refute it at one input. -/
def fnShapesWrong : ChangeSpec := { name := "fnShapes", fn := fun _ => fun
  | [d] => { results := [.lit (.bool false)], args := [d] }
  | _ => none }
def FnShapesWrongFalsely : Prop := fnShapesRow.holds Try.pinned (OpenSpec.ofChange fnShapesWrong)

/-- 'laws.FnExactCentralCoefs': WHATEVER THE INPUT: true; the input reads as it did. -/
def fnExactCentralCoefsSpec : ChangeSpec := { name := "fnExactCentralCoefs", fn := fun _ => fun
  | [d] => { results := [.lit (.bool true)], args := [d] }
  | _ => none }
def fnExactCentralCoefsRow : OpenClaim := { program := "ytpbkbibjlbbkbaa", sum := "3d7089984cd3dadf5affd8d8d884c7aa185f36de010463fe662b474d53a91dab", func := "loop.example/g00657/laws.FnExactCentralCoefs", spec := "fnExactCentralCoefs", unfollowed := true, recurses := true, apart := false }
def FnExactCentralCoefsSaid : Prop := fnExactCentralCoefsRow.holds Try.pinned (OpenSpec.ofChange fnExactCentralCoefsSpec)

/-- ITS FALSE NEIGHBOUR: 'it returns false'. Refute it at one input. -/
def fnExactCentralCoefsWrong : ChangeSpec := { name := "fnExactCentralCoefs", fn := fun _ => fun
  | [d] => { results := [.lit (.bool false)], args := [d] }
  | _ => none }
def FnExactCentralCoefsWrongFalsely : Prop := fnExactCentralCoefsRow.holds Try.pinned (OpenSpec.ofChange fnExactCentralCoefsWrong)

/-- 'laws.FnExactAnchorOf': WHATEVER THE INPUT: true; the input reads as it did. -/
def fnExactAnchorOfSpec : ChangeSpec := { name := "fnExactAnchorOf", fn := fun _ => fun
  | [d] => { results := [.lit (.bool true)], args := [d] }
  | _ => none }
def fnExactAnchorOfRow : OpenClaim := { program := "ytpbkbibjlbbkbaa", sum := "3d7089984cd3dadf5affd8d8d884c7aa185f36de010463fe662b474d53a91dab", func := "loop.example/g00657/laws.FnExactAnchorOf", spec := "fnExactAnchorOf", unfollowed := true, recurses := true, apart := false }
def FnExactAnchorOfSaid : Prop := fnExactAnchorOfRow.holds Try.pinned (OpenSpec.ofChange fnExactAnchorOfSpec)

/-- ITS FALSE NEIGHBOUR: 'it returns false'. Refute it at one input. -/
def fnExactAnchorOfWrong : ChangeSpec := { name := "fnExactAnchorOf", fn := fun _ => fun
  | [d] => { results := [.lit (.bool false)], args := [d] }
  | _ => none }
def FnExactAnchorOfWrongFalsely : Prop := fnExactAnchorOfRow.holds Try.pinned (OpenSpec.ofChange fnExactAnchorOfWrong)

/- THE SECOND FORM. 'bulk': how many values and letters a reading holds, each counted each time it is reached (what is shared counts as often as it is met; a slice's spare places count too). A statement '..UptoSaid' is the law's where the arguments, and the package variables that the reading takes, are together of bulk at most 1048576: NARROWER than '..Said'. Prove '..Said' where nothing that the law and all that it calls make is longer than what came in: it says more and counts as full. Else prove '..UptoSaid'. A law counts once. -/
mutual
def uptoBulk {H : Type} : DataW H → Nat
  | .lit (.string bytes) => bytes.length + 1
  | .lit _ => 1
  | .nil => 1
  | .ptr d => uptoBulk d + 1
  | .slice elems spare => uptoBulkAll elems + uptoBulkAll spare + 1
  | .agg parts => uptoBulkAll parts + 1
  | .iface _ d => uptoBulk d + 1
  | .map entries => uptoBulkEntries entries + 1
  | .held _ => 1
def uptoBulkAll {H : Type} : List (DataW H) → Nat
  | [] => 0
  | d :: r => uptoBulk d + uptoBulkAll r
def uptoBulkEntries {H : Type} : List (Lit × DataW H) → Nat
  | [] => 0
  | x :: r => uptoBulkEntry x + uptoBulkEntries r
def uptoBulkEntry {H : Type} : Lit × DataW H → Nat
  | (.string bytes, d) => bytes.length + uptoBulk d + 1
  | (_, d) => uptoBulk d + 1
 end
def uptoSmall : (H : Type) → List (DataW H) → Bool := fun _ ds => decide (uptoBulkAll ds ≤ 1048576)
def OpenSpec.upto (s : _root_.Go.ChangeSpec) : _root_.Go.OpenSpec := { _root_.Go.OpenSpec.ofChange s with cond := some uptoSmall }

/-- 'laws.FnCells', WHERE WHAT IT READS IS OF BULK AT MOST 1048576: true; the input reads as it did. -/
def fnCellsUptoRow : OpenClaim := { program := "ytpbkbibjlbbkbaa", sum := "3d7089984cd3dadf5affd8d8d884c7aa185f36de010463fe662b474d53a91dab", func := "loop.example/g00657/laws.FnCells", spec := "fnCells", apart := false, narrowed := true }
def FnCellsUptoSaid : Prop := fnCellsUptoRow.holds Try.pinned (OpenSpec.upto fnCellsSpec)

/-- 'laws.FnExactBandNorms', WHERE WHAT IT READS IS OF BULK AT MOST 1048576: true; the input reads as it did. -/
def fnExactBandNormsUptoRow : OpenClaim := { program := "ytpbkbibjlbbkbaa", sum := "3d7089984cd3dadf5affd8d8d884c7aa185f36de010463fe662b474d53a91dab", func := "loop.example/g00657/laws.FnExactBandNorms", spec := "fnExactBandNorms", unfollowed := true, recurses := true, apart := false, narrowed := true }
def FnExactBandNormsUptoSaid : Prop := fnExactBandNormsUptoRow.holds Try.pinned (OpenSpec.upto fnExactBandNormsSpec)

/-- 'laws.FnPairs', WHERE WHAT IT READS IS OF BULK AT MOST 1048576: true; the input reads as it did. -/
def fnPairsUptoRow : OpenClaim := { program := "ytpbkbibjlbbkbaa", sum := "3d7089984cd3dadf5affd8d8d884c7aa185f36de010463fe662b474d53a91dab", func := "loop.example/g00657/laws.FnPairs", spec := "fnPairs", apart := false, narrowed := true }
def FnPairsUptoSaid : Prop := fnPairsUptoRow.holds Try.pinned (OpenSpec.upto fnPairsSpec)

/-- 'laws.FnExactNextPulses', WHERE WHAT IT READS IS OF BULK AT MOST 1048576: true; the input reads as it did. -/
def fnExactNextPulsesUptoRow : OpenClaim := { program := "ytpbkbibjlbbkbaa", sum := "3d7089984cd3dadf5affd8d8d884c7aa185f36de010463fe662b474d53a91dab", func := "loop.example/g00657/laws.FnExactNextPulses", spec := "fnExactNextPulses", unfollowed := true, recurses := true, apart := false, narrowed := true }
def FnExactNextPulsesUptoSaid : Prop := fnExactNextPulsesUptoRow.holds Try.pinned (OpenSpec.upto fnExactNextPulsesSpec)

/-- 'laws.FnPulses', WHERE WHAT IT READS IS OF BULK AT MOST 1048576: true; the input reads as it did. -/
def fnPulsesUptoRow : OpenClaim := { program := "ytpbkbibjlbbkbaa", sum := "3d7089984cd3dadf5affd8d8d884c7aa185f36de010463fe662b474d53a91dab", func := "loop.example/g00657/laws.FnPulses", spec := "fnPulses", unfollowed := true, recurses := true, apart := false, narrowed := true }
def FnPulsesUptoSaid : Prop := fnPulsesUptoRow.holds Try.pinned (OpenSpec.upto fnPulsesSpec)

/-- 'laws.FnExactSearchPulses', WHERE WHAT IT READS IS OF BULK AT MOST 1048576: true; the input reads as it did. -/
def fnExactSearchPulsesUptoRow : OpenClaim := { program := "ytpbkbibjlbbkbaa", sum := "3d7089984cd3dadf5affd8d8d884c7aa185f36de010463fe662b474d53a91dab", func := "loop.example/g00657/laws.FnExactSearchPulses", spec := "fnExactSearchPulses", unfollowed := true, recurses := true, apart := false, narrowed := true }
def FnExactSearchPulsesUptoSaid : Prop := fnExactSearchPulsesUptoRow.holds Try.pinned (OpenSpec.upto fnExactSearchPulsesSpec)

/-- 'laws.FnExactFrameFault', WHERE WHAT IT READS IS OF BULK AT MOST 1048576: true; the input reads as it did. -/
def fnExactFrameFaultUptoRow : OpenClaim := { program := "ytpbkbibjlbbkbaa", sum := "3d7089984cd3dadf5affd8d8d884c7aa185f36de010463fe662b474d53a91dab", func := "loop.example/g00657/laws.FnExactFrameFault", spec := "fnExactFrameFault", unfollowed := true, recurses := true, apart := false, narrowed := true }
def FnExactFrameFaultUptoSaid : Prop := fnExactFrameFaultUptoRow.holds Try.pinned (OpenSpec.upto fnExactFrameFaultSpec)

/-- 'laws.FnExactPartFault', WHERE WHAT IT READS IS OF BULK AT MOST 1048576: true; the input reads as it did. -/
def fnExactPartFaultUptoRow : OpenClaim := { program := "ytpbkbibjlbbkbaa", sum := "3d7089984cd3dadf5affd8d8d884c7aa185f36de010463fe662b474d53a91dab", func := "loop.example/g00657/laws.FnExactPartFault", spec := "fnExactPartFault", unfollowed := true, recurses := true, apart := false, narrowed := true }
def FnExactPartFaultUptoSaid : Prop := fnExactPartFaultUptoRow.holds Try.pinned (OpenSpec.upto fnExactPartFaultSpec)

/-- 'laws.FnBands', WHERE WHAT IT READS IS OF BULK AT MOST 1048576: true; the input reads as it did. -/
def fnBandsUptoRow : OpenClaim := { program := "ytpbkbibjlbbkbaa", sum := "3d7089984cd3dadf5affd8d8d884c7aa185f36de010463fe662b474d53a91dab", func := "loop.example/g00657/laws.FnBands", spec := "fnBands", unfollowed := true, recurses := true, apart := false, narrowed := true }
def FnBandsUptoSaid : Prop := fnBandsUptoRow.holds Try.pinned (OpenSpec.upto fnBandsSpec)

/-- 'laws.FnShapes', WHERE WHAT IT READS IS OF BULK AT MOST 1048576: true; the input reads as it did. -/
def fnShapesUptoRow : OpenClaim := { program := "ytpbkbibjlbbkbaa", sum := "3d7089984cd3dadf5affd8d8d884c7aa185f36de010463fe662b474d53a91dab", func := "loop.example/g00657/laws.FnShapes", spec := "fnShapes", unfollowed := true, recurses := true, apart := false, narrowed := true }
def FnShapesUptoSaid : Prop := fnShapesUptoRow.holds Try.pinned (OpenSpec.upto fnShapesSpec)

/-- 'laws.FnExactCentralCoefs', WHERE WHAT IT READS IS OF BULK AT MOST 1048576: true; the input reads as it did. -/
def fnExactCentralCoefsUptoRow : OpenClaim := { program := "ytpbkbibjlbbkbaa", sum := "3d7089984cd3dadf5affd8d8d884c7aa185f36de010463fe662b474d53a91dab", func := "loop.example/g00657/laws.FnExactCentralCoefs", spec := "fnExactCentralCoefs", unfollowed := true, recurses := true, apart := false, narrowed := true }
def FnExactCentralCoefsUptoSaid : Prop := fnExactCentralCoefsUptoRow.holds Try.pinned (OpenSpec.upto fnExactCentralCoefsSpec)

/-- 'laws.FnExactAnchorOf', WHERE WHAT IT READS IS OF BULK AT MOST 1048576: true; the input reads as it did. -/
def fnExactAnchorOfUptoRow : OpenClaim := { program := "ytpbkbibjlbbkbaa", sum := "3d7089984cd3dadf5affd8d8d884c7aa185f36de010463fe662b474d53a91dab", func := "loop.example/g00657/laws.FnExactAnchorOf", spec := "fnExactAnchorOf", unfollowed := true, recurses := true, apart := false, narrowed := true }
def FnExactAnchorOfUptoSaid : Prop := fnExactAnchorOfUptoRow.holds Try.pinned (OpenSpec.upto fnExactAnchorOfSpec)

end Rows
end Go.Proofs.Ytpbkbibjlbbkbaa
