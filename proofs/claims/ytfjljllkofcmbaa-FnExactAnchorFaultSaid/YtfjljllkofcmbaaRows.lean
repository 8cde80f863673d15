/-
  No cell of these rows narrows 'for every input' (looked for: loops, veiled, ifaces, maps, wideKeys, modest, calm, conditions, laid).
  DERIVED. THE GIVEN ROWS OF THIS SEAT. 12 by the template 'for every input the law returns true; each argument reads behind the call as it read before'; 0 by the template 'total and deterministic' (their statements: YtfjljllkofcmbaaTotals.lean).
  GIVEN WITH THE SEED: the statements are not yours to turn. If you find one false, say at which input.
  Laid BY PROGRAM, IN A SANDBOX (cutbox-rows.mjs): the forced cells as the released guide's own fill.sh prints them over the translation a54fa0612b34c939… (all of the seat's roots in one cut). By AI agents, Wed Nov 11 2026. No macro, syntax, notation, axiom, sorry.
-/
import Derived.Test.YtfjljllkofcmbaaChecked
import GoSem.Claim
import GoSem.ClaimJoined
import GoSem.ClaimMapViews
import Derived.JoinedTies
import Derived.KernelRfl
namespace Go.Proofs.Ytfjljllkofcmbaa
/- THE CELL 'sum', in the pinned program and in every row, IS THE sha256 OF THE DUMP (.gsa) THAT YtfjljllkofcmbaaProg.lean LOADS. Nothing in Lean hashes anything: it is a label: what it is worth is what the hold of that sum in a sandbox is worth. -/
noncomputable def Try.pinned : Pinned := { name := "ytfjljllkofcmbaa", sum := "a54fa0612b34c9391a80346d8698b7c3d5d485b9996b05a113e46cce40f44089", checked := Try.checked }
namespace Rows
def none {H : Type} : Left H := { results := [], args := [] }

/-- 'laws.FnExactCountPulses': WHATEVER THE INPUT: true; the input reads as it did. -/
def fnExactCountPulsesSpec : ChangeSpec := { name := "fnExactCountPulses", fn := fun _ => fun
  | [d1, d2] => { results := [.lit (.bool true)], args := [d1, d2] }
  | _ => none }
def fnExactCountPulsesRow : OpenClaim := { program := "ytfjljllkofcmbaa", sum := "a54fa0612b34c9391a80346d8698b7c3d5d485b9996b05a113e46cce40f44089", func := "loop.example/g00657/laws.FnExactCountPulses", spec := "fnExactCountPulses", recurses := true, apart := false }
def FnExactCountPulsesSaid : Prop := fnExactCountPulsesRow.holds Try.pinned (OpenSpec.ofChange fnExactCountPulsesSpec)

/-- ITS FALSE NEIGHBOUR: 'it returns false'. Refute it at one input. -/
def fnExactCountPulsesWrong : ChangeSpec := { name := "fnExactCountPulses", fn := fun _ => fun
  | [d1, d2] => { results := [.lit (.bool false)], args := [d1, d2] }
  | _ => none }
def FnExactCountPulsesWrongFalsely : Prop := fnExactCountPulsesRow.holds Try.pinned (OpenSpec.ofChange fnExactCountPulsesWrong)

/-- 'laws.FnExactQuantize': WHATEVER THE INPUT: true; the input reads as it did. -/
def fnExactQuantizeSpec : ChangeSpec := { name := "fnExactQuantize", fn := fun _ => fun
  | [d1, d2] => { results := [.lit (.bool true)], args := [d1, d2] }
  | _ => none }
def fnExactQuantizeRow : OpenClaim := { program := "ytfjljllkofcmbaa", sum := "a54fa0612b34c9391a80346d8698b7c3d5d485b9996b05a113e46cce40f44089", func := "loop.example/g00657/laws.FnExactQuantize", spec := "fnExactQuantize", recurses := true, apart := false }
def FnExactQuantizeSaid : Prop := fnExactQuantizeRow.holds Try.pinned (OpenSpec.ofChange fnExactQuantizeSpec)

/-- ITS FALSE NEIGHBOUR: 'it returns false'. Refute it at one input. -/
def fnExactQuantizeWrong : ChangeSpec := { name := "fnExactQuantize", fn := fun _ => fun
  | [d1, d2] => { results := [.lit (.bool false)], args := [d1, d2] }
  | _ => none }
def FnExactQuantizeWrongFalsely : Prop := fnExactQuantizeRow.holds Try.pinned (OpenSpec.ofChange fnExactQuantizeWrong)

/-- 'laws.FnCounts': WHATEVER THE INPUT: true; the input reads as it did. -/
def fnCountsSpec : ChangeSpec := { name := "fnCounts", fn := fun _ => fun
  | [d] => { results := [.lit (.bool true)], args := [d] }
  | _ => none }
def fnCountsRow : OpenClaim := { program := "ytfjljllkofcmbaa", sum := "a54fa0612b34c9391a80346d8698b7c3d5d485b9996b05a113e46cce40f44089", func := "loop.example/g00657/laws.FnCounts", spec := "fnCounts", recurses := true, apart := false }
def FnCountsSaid : Prop := fnCountsRow.holds Try.pinned (OpenSpec.ofChange fnCountsSpec)

/-- ITS FALSE NEIGHBOUR: 'it returns false'. Refute it at one input. -/
def fnCountsWrong : ChangeSpec := { name := "fnCounts", fn := fun _ => fun
  | [d] => { results := [.lit (.bool false)], args := [d] }
  | _ => none }
def FnCountsWrongFalsely : Prop := fnCountsRow.holds Try.pinned (OpenSpec.ofChange fnCountsWrong)

/-- 'laws.FnExactSameAnchors': WHATEVER THE INPUT: true; the input reads as it did. -/
def fnExactSameAnchorsSpec : ChangeSpec := { name := "fnExactSameAnchors", fn := fun _ => fun
  | [d1, d2] => { results := [.lit (.bool true)], args := [d1, d2] }
  | _ => none }
def fnExactSameAnchorsRow : OpenClaim := { program := "ytfjljllkofcmbaa", sum := "a54fa0612b34c9391a80346d8698b7c3d5d485b9996b05a113e46cce40f44089", func := "loop.example/g00657/laws.FnExactSameAnchors", spec := "fnExactSameAnchors", apart := false }
def FnExactSameAnchorsSaid : Prop := fnExactSameAnchorsRow.holds Try.pinned (OpenSpec.ofChange fnExactSameAnchorsSpec)

/-- ITS FALSE NEIGHBOUR: 'it returns false'. Refute it at one input. -/
def fnExactSameAnchorsWrong : ChangeSpec := { name := "fnExactSameAnchors", fn := fun _ => fun
  | [d1, d2] => { results := [.lit (.bool false)], args := [d1, d2] }
  | _ => none }
def FnExactSameAnchorsWrongFalsely : Prop := fnExactSameAnchorsRow.holds Try.pinned (OpenSpec.ofChange fnExactSameAnchorsWrong)

/-- 'laws.FnExactSplitIndex': WHATEVER THE INPUT: true; the input reads as it did. -/
def fnExactSplitIndexSpec : ChangeSpec := { name := "fnExactSplitIndex", fn := fun _ => fun
  | [d1, d2, d3] => { results := [.lit (.bool true)], args := [d1, d2, d3] }
  | _ => none }
def fnExactSplitIndexRow : OpenClaim := { program := "ytfjljllkofcmbaa", sum := "a54fa0612b34c9391a80346d8698b7c3d5d485b9996b05a113e46cce40f44089", func := "loop.example/g00657/laws.FnExactSplitIndex", spec := "fnExactSplitIndex", apart := false }
def FnExactSplitIndexSaid : Prop := fnExactSplitIndexRow.holds Try.pinned (OpenSpec.ofChange fnExactSplitIndexSpec)

/-- ITS FALSE NEIGHBOUR: 'it returns false'. Refute it at one input. -/
def fnExactSplitIndexWrong : ChangeSpec := { name := "fnExactSplitIndex", fn := fun _ => fun
  | [d1, d2, d3] => { results := [.lit (.bool false)], args := [d1, d2, d3] }
  | _ => none }
def FnExactSplitIndexWrongFalsely : Prop := fnExactSplitIndexRow.holds Try.pinned (OpenSpec.ofChange fnExactSplitIndexWrong)

/-- 'laws.FnOwners': WHATEVER THE INPUT: true; the input reads as it did. -/
def fnOwnersSpec : ChangeSpec := { name := "fnOwners", fn := fun _ => fun
  | [d] => { results := [.lit (.bool true)], args := [d] }
  | _ => none }
def fnOwnersRow : OpenClaim := { program := "ytfjljllkofcmbaa", sum := "a54fa0612b34c9391a80346d8698b7c3d5d485b9996b05a113e46cce40f44089", func := "loop.example/g00657/laws.FnOwners", spec := "fnOwners", apart := false }
def FnOwnersSaid : Prop := fnOwnersRow.holds Try.pinned (OpenSpec.ofChange fnOwnersSpec)

/-- ITS FALSE NEIGHBOUR: 'it returns false'. Refute it at one input. -/
def fnOwnersWrong : ChangeSpec := { name := "fnOwners", fn := fun _ => fun
  | [d] => { results := [.lit (.bool false)], args := [d] }
  | _ => none }
def FnOwnersWrongFalsely : Prop := fnOwnersRow.holds Try.pinned (OpenSpec.ofChange fnOwnersWrong)

/-- 'laws.FnExactFillOf': WHATEVER THE INPUT: true; the input reads as it did. -/
def fnExactFillOfSpec : ChangeSpec := { name := "fnExactFillOf", fn := fun _ => fun
  | [d1, d2] => { results := [.lit (.bool true)], args := [d1, d2] }
  | _ => none }
def fnExactFillOfRow : OpenClaim := { program := "ytfjljllkofcmbaa", sum := "a54fa0612b34c9391a80346d8698b7c3d5d485b9996b05a113e46cce40f44089", func := "loop.example/g00657/laws.FnExactFillOf", spec := "fnExactFillOf", apart := false }
def FnExactFillOfSaid : Prop := fnExactFillOfRow.holds Try.pinned (OpenSpec.ofChange fnExactFillOfSpec)

/-- ITS FALSE NEIGHBOUR: 'it returns false'. Refute it at one input. -/
def fnExactFillOfWrong : ChangeSpec := { name := "fnExactFillOf", fn := fun _ => fun
  | [d1, d2] => { results := [.lit (.bool false)], args := [d1, d2] }
  | _ => none }
def FnExactFillOfWrongFalsely : Prop := fnExactFillOfRow.holds Try.pinned (OpenSpec.ofChange fnExactFillOfWrong)

/-- 'laws.FnExactPulsesFault': WHATEVER THE INPUT: true; the input reads as it did. -/
def fnExactPulsesFaultSpec : ChangeSpec := { name := "fnExactPulsesFault", fn := fun _ => fun
  | [d1, d2] => { results := [.lit (.bool true)], args := [d1, d2] }
  | _ => none }
def fnExactPulsesFaultRow : OpenClaim := { program := "ytfjljllkofcmbaa", sum := "a54fa0612b34c9391a80346d8698b7c3d5d485b9996b05a113e46cce40f44089", func := "loop.example/g00657/laws.FnExactPulsesFault", spec := "fnExactPulsesFault", unfollowed := true, recurses := true, apart := false }
def FnExactPulsesFaultSaid : Prop := fnExactPulsesFaultRow.holds Try.pinned (OpenSpec.ofChange fnExactPulsesFaultSpec)

/-- ITS FALSE NEIGHBOUR: 'it returns false'. Refute it at one input. -/
def fnExactPulsesFaultWrong : ChangeSpec := { name := "fnExactPulsesFault", fn := fun _ => fun
  | [d1, d2] => { results := [.lit (.bool false)], args := [d1, d2] }
  | _ => none }
def FnExactPulsesFaultWrongFalsely : Prop := fnExactPulsesFaultRow.holds Try.pinned (OpenSpec.ofChange fnExactPulsesFaultWrong)

/-- 'laws.FnExactBandsOf': WHATEVER THE INPUT: true; the input reads as it did. -/
def fnExactBandsOfSpec : ChangeSpec := { name := "fnExactBandsOf", fn := fun _ => fun
  | [d] => { results := [.lit (.bool true)], args := [d] }
  | _ => none }
def fnExactBandsOfRow : OpenClaim := { program := "ytfjljllkofcmbaa", sum := "a54fa0612b34c9391a80346d8698b7c3d5d485b9996b05a113e46cce40f44089", func := "loop.example/g00657/laws.FnExactBandsOf", spec := "fnExactBandsOf", apart := false }
def FnExactBandsOfSaid : Prop := fnExactBandsOfRow.holds Try.pinned (OpenSpec.ofChange fnExactBandsOfSpec)

/-- ITS FALSE NEIGHBOUR: 'it returns false'. Refute it at one input. -/
def fnExactBandsOfWrong : ChangeSpec := { name := "fnExactBandsOf", fn := fun _ => fun
  | [d] => { results := [.lit (.bool false)], args := [d] }
  | _ => none }
def FnExactBandsOfWrongFalsely : Prop := fnExactBandsOfRow.holds Try.pinned (OpenSpec.ofChange fnExactBandsOfWrong)

/-- 'laws.FnExactJoinIndex': WHATEVER THE INPUT: true; the input reads as it did. -/
def fnExactJoinIndexSpec : ChangeSpec := { name := "fnExactJoinIndex", fn := fun _ => fun
  | [d1, d2, d3, d4] => { results := [.lit (.bool true)], args := [d1, d2, d3, d4] }
  | _ => none }
def fnExactJoinIndexRow : OpenClaim := { program := "ytfjljllkofcmbaa", sum := "a54fa0612b34c9391a80346d8698b7c3d5d485b9996b05a113e46cce40f44089", func := "loop.example/g00657/laws.FnExactJoinIndex", spec := "fnExactJoinIndex", apart := false }
def FnExactJoinIndexSaid : Prop := fnExactJoinIndexRow.holds Try.pinned (OpenSpec.ofChange fnExactJoinIndexSpec)

/-- ITS FALSE NEIGHBOUR: 'it returns false'. Refute it at one input. -/
def fnExactJoinIndexWrong : ChangeSpec := { name := "fnExactJoinIndex", fn := fun _ => fun
  | [d1, d2, d3, d4] => { results := [.lit (.bool false)], args := [d1, d2, d3, d4] }
  | _ => none }
def FnExactJoinIndexWrongFalsely : Prop := fnExactJoinIndexRow.holds Try.pinned (OpenSpec.ofChange fnExactJoinIndexWrong)

/-- 'laws.FnExactAnchorFault': WHATEVER THE INPUT: true; the input reads as it did. -/
def fnExactAnchorFaultSpec : ChangeSpec := { name := "fnExactAnchorFault", fn := fun _ => fun
  | [d] => { results := [.lit (.bool true)], args := [d] }
  | _ => none }
def fnExactAnchorFaultRow : OpenClaim := { program := "ytfjljllkofcmbaa", sum := "a54fa0612b34c9391a80346d8698b7c3d5d485b9996b05a113e46cce40f44089", func := "loop.example/g00657/laws.FnExactAnchorFault", spec := "fnExactAnchorFault", unfollowed := true, recurses := true, apart := false }
def FnExactAnchorFaultSaid : Prop := fnExactAnchorFaultRow.holds Try.pinned (OpenSpec.ofChange fnExactAnchorFaultSpec)

/-- ITS FALSE NEIGHBOUR: 'it returns false'. Refute it at one input. -/
def fnExactAnchorFaultWrong : ChangeSpec := { name := "fnExactAnchorFault", fn := fun _ => fun
  | [d] => { results := [.lit (.bool false)], args := [d] }
  | _ => none }
def FnExactAnchorFaultWrongFalsely : Prop := fnExactAnchorFaultRow.holds Try.pinned (OpenSpec.ofChange fnExactAnchorFaultWrong)

/-- 'laws.FnQuants': WHATEVER THE INPUT: true; the input reads as it did. -/
def fnQuantsSpec : ChangeSpec := { name := "fnQuants", fn := fun _ => fun
  | [d] => { results := [.lit (.bool true)], args := [d] }
  | _ => none }
def fnQuantsRow : OpenClaim := { program := "ytfjljllkofcmbaa", sum := "a54fa0612b34c9391a80346d8698b7c3d5d485b9996b05a113e46cce40f44089", func := "loop.example/g00657/laws.FnQuants", spec := "fnQuants", recurses := true, apart := false }
def FnQuantsSaid : Prop := fnQuantsRow.holds Try.pinned (OpenSpec.ofChange fnQuantsSpec)

/-- ITS FALSE NEIGHBOUR: 'it returns false'. Refute it at one input. -/
def fnQuantsWrong : ChangeSpec := { name := "fnQuants", fn := fun _ => fun
  | [d] => { results := [.lit (.bool false)], args := [d] }
  | _ => none }
def FnQuantsWrongFalsely : Prop := fnQuantsRow.holds Try.pinned (OpenSpec.ofChange fnQuantsWrong)

/- THE SECOND FORM. 'bulk': how many values and letters a reading holds, each counted each time it is reached (what is shared counts as often as it is met; a slice's spare places count too). A statement '..UptoSaid' is the law's where the arguments, and the package variables that the reading takes, are together of bulk at most 1048576: NARROWER than '..Said'. Prove '..Said' where nothing that the law and all that it calls make is longer than what came in: it says more and counts as full. Else prove '..UptoSaid'. A law counts once. -/
mutual
def uptoBulk {H : Type} : DataW H → Nat
  | .lit (.string bytes) => bytes.length + 1
  | .lit _ => 1
  | .nil => 1
  | .ptr d => uptoBulk d + 1
  | .slice elems spare => uptoBulkAll elems + uptoBulkAll spare + 1
  | .agg parts => uptoBulkAll parts + 1
  | .iface _ d => uptoBulk d + 1
  | .map entries => uptoBulkEntries entries + 1
  | .held _ => 1
def uptoBulkAll {H : Type} : List (DataW H) → Nat
  | [] => 0
  | d :: r => uptoBulk d + uptoBulkAll r
def uptoBulkEntries {H : Type} : List (Lit × DataW H) → Nat
  | [] => 0
  | x :: r => uptoBulkEntry x + uptoBulkEntries r
def uptoBulkEntry {H : Type} : Lit × DataW H → Nat
  | (.string bytes, d) => bytes.length + uptoBulk d + 1
  | (_, d) => uptoBulk d + 1
 end
def uptoSmall : (H : Type) → List (DataW H) → Bool := fun _ ds => decide (uptoBulkAll ds ≤ 1048576)
def OpenSpec.upto (s : _root_.Go.ChangeSpec) : _root_.Go.OpenSpec := { _root_.Go.OpenSpec.ofChange s with cond := some uptoSmall }

/-- 'laws.FnExactCountPulses', WHERE WHAT IT READS IS OF BULK AT MOST 1048576: true; the input reads as it did. -/
def fnExactCountPulsesUptoRow : OpenClaim := { program := "ytfjljllkofcmbaa", sum := "a54fa0612b34c9391a80346d8698b7c3d5d485b9996b05a113e46cce40f44089", func := "loop.example/g00657/laws.FnExactCountPulses", spec := "fnExactCountPulses", recurses := true, apart := false, narrowed := true }
def FnExactCountPulsesUptoSaid : Prop := fnExactCountPulsesUptoRow.holds Try.pinned (OpenSpec.upto fnExactCountPulsesSpec)

/-- 'laws.FnExactQuantize', WHERE WHAT IT READS IS OF BULK AT MOST 1048576: true; the input reads as it did. -/
def fnExactQuantizeUptoRow : OpenClaim := { program := "ytfjljllkofcmbaa", sum := "a54fa0612b34c9391a80346d8698b7c3d5d485b9996b05a113e46cce40f44089", func := "loop.example/g00657/laws.FnExactQuantize", spec := "fnExactQuantize", recurses := true, apart := false, narrowed := true }
def FnExactQuantizeUptoSaid : Prop := fnExactQuantizeUptoRow.holds Try.pinned (OpenSpec.upto fnExactQuantizeSpec)

/-- 'laws.FnCounts', WHERE WHAT IT READS IS OF BULK AT MOST 1048576: true; the input reads as it did. -/
def fnCountsUptoRow : OpenClaim := { program := "ytfjljllkofcmbaa", sum := "a54fa0612b34c9391a80346d8698b7c3d5d485b9996b05a113e46cce40f44089", func := "loop.example/g00657/laws.FnCounts", spec := "fnCounts", recurses := true, apart := false, narrowed := true }
def FnCountsUptoSaid : Prop := fnCountsUptoRow.holds Try.pinned (OpenSpec.upto fnCountsSpec)

/-- 'laws.FnExactSameAnchors', WHERE WHAT IT READS IS OF BULK AT MOST 1048576: true; the input reads as it did. -/
def fnExactSameAnchorsUptoRow : OpenClaim := { program := "ytfjljllkofcmbaa", sum := "a54fa0612b34c9391a80346d8698b7c3d5d485b9996b05a113e46cce40f44089", func := "loop.example/g00657/laws.FnExactSameAnchors", spec := "fnExactSameAnchors", apart := false, narrowed := true }
def FnExactSameAnchorsUptoSaid : Prop := fnExactSameAnchorsUptoRow.holds Try.pinned (OpenSpec.upto fnExactSameAnchorsSpec)

/-- 'laws.FnExactSplitIndex', WHERE WHAT IT READS IS OF BULK AT MOST 1048576: true; the input reads as it did. -/
def fnExactSplitIndexUptoRow : OpenClaim := { program := "ytfjljllkofcmbaa", sum := "a54fa0612b34c9391a80346d8698b7c3d5d485b9996b05a113e46cce40f44089", func := "loop.example/g00657/laws.FnExactSplitIndex", spec := "fnExactSplitIndex", apart := false, narrowed := true }
def FnExactSplitIndexUptoSaid : Prop := fnExactSplitIndexUptoRow.holds Try.pinned (OpenSpec.upto fnExactSplitIndexSpec)

/-- 'laws.FnOwners', WHERE WHAT IT READS IS OF BULK AT MOST 1048576: true; the input reads as it did. -/
def fnOwnersUptoRow : OpenClaim := { program := "ytfjljllkofcmbaa", sum := "a54fa0612b34c9391a80346d8698b7c3d5d485b9996b05a113e46cce40f44089", func := "loop.example/g00657/laws.FnOwners", spec := "fnOwners", apart := false, narrowed := true }
def FnOwnersUptoSaid : Prop := fnOwnersUptoRow.holds Try.pinned (OpenSpec.upto fnOwnersSpec)

/-- 'laws.FnExactFillOf', WHERE WHAT IT READS IS OF BULK AT MOST 1048576: true; the input reads as it did. -/
def fnExactFillOfUptoRow : OpenClaim := { program := "ytfjljllkofcmbaa", sum := "a54fa0612b34c9391a80346d8698b7c3d5d485b9996b05a113e46cce40f44089", func := "loop.example/g00657/laws.FnExactFillOf", spec := "fnExactFillOf", apart := false, narrowed := true }
def FnExactFillOfUptoSaid : Prop := fnExactFillOfUptoRow.holds Try.pinned (OpenSpec.upto fnExactFillOfSpec)

/-- 'laws.FnExactPulsesFault', WHERE WHAT IT READS IS OF BULK AT MOST 1048576: true; the input reads as it did. -/
def fnExactPulsesFaultUptoRow : OpenClaim := { program := "ytfjljllkofcmbaa", sum := "a54fa0612b34c9391a80346d8698b7c3d5d485b9996b05a113e46cce40f44089", func := "loop.example/g00657/laws.FnExactPulsesFault", spec := "fnExactPulsesFault", unfollowed := true, recurses := true, apart := false, narrowed := true }
def FnExactPulsesFaultUptoSaid : Prop := fnExactPulsesFaultUptoRow.holds Try.pinned (OpenSpec.upto fnExactPulsesFaultSpec)

/-- 'laws.FnExactBandsOf', WHERE WHAT IT READS IS OF BULK AT MOST 1048576: true; the input reads as it did. -/
def fnExactBandsOfUptoRow : OpenClaim := { program := "ytfjljllkofcmbaa", sum := "a54fa0612b34c9391a80346d8698b7c3d5d485b9996b05a113e46cce40f44089", func := "loop.example/g00657/laws.FnExactBandsOf", spec := "fnExactBandsOf", apart := false, narrowed := true }
def FnExactBandsOfUptoSaid : Prop := fnExactBandsOfUptoRow.holds Try.pinned (OpenSpec.upto fnExactBandsOfSpec)

/-- 'laws.FnExactJoinIndex', WHERE WHAT IT READS IS OF BULK AT MOST 1048576: true; the input reads as it did. -/
def fnExactJoinIndexUptoRow : OpenClaim := { program := "ytfjljllkofcmbaa", sum := "a54fa0612b34c9391a80346d8698b7c3d5d485b9996b05a113e46cce40f44089", func := "loop.example/g00657/laws.FnExactJoinIndex", spec := "fnExactJoinIndex", apart := false, narrowed := true }
def FnExactJoinIndexUptoSaid : Prop := fnExactJoinIndexUptoRow.holds Try.pinned (OpenSpec.upto fnExactJoinIndexSpec)

/-- 'laws.FnExactAnchorFault', WHERE WHAT IT READS IS OF BULK AT MOST 1048576: true; the input reads as it did. -/
def fnExactAnchorFaultUptoRow : OpenClaim := { program := "ytfjljllkofcmbaa", sum := "a54fa0612b34c9391a80346d8698b7c3d5d485b9996b05a113e46cce40f44089", func := "loop.example/g00657/laws.FnExactAnchorFault", spec := "fnExactAnchorFault", unfollowed := true, recurses := true, apart := false, narrowed := true }
def FnExactAnchorFaultUptoSaid : Prop := fnExactAnchorFaultUptoRow.holds Try.pinned (OpenSpec.upto fnExactAnchorFaultSpec)

/-- 'laws.FnQuants', WHERE WHAT IT READS IS OF BULK AT MOST 1048576: true; the input reads as it did. -/
def fnQuantsUptoRow : OpenClaim := { program := "ytfjljllkofcmbaa", sum := "a54fa0612b34c9391a80346d8698b7c3d5d485b9996b05a113e46cce40f44089", func := "loop.example/g00657/laws.FnQuants", spec := "fnQuants", recurses := true, apart := false, narrowed := true }
def FnQuantsUptoSaid : Prop := fnQuantsUptoRow.holds Try.pinned (OpenSpec.upto fnQuantsSpec)

end Rows
end Go.Proofs.Ytfjljllkofcmbaa
