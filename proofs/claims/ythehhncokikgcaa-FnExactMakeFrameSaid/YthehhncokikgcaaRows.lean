/-
  No cell of these rows narrows 'for every input' (looked for: loops, veiled, ifaces, maps, wideKeys, modest, calm, conditions, laid).
  DERIVED. THE GIVEN ROWS OF THIS SEAT. 6 by the template 'for every input the law returns true; each argument reads behind the call as it read before'; 0 by the template 'total and deterministic' (their statements: YthehhncokikgcaaTotals.lean).
  GIVEN WITH THE SEED: the statements are not yours to turn. If you find one false, say at which input.
  Laid BY PROGRAM, IN A SANDBOX (cutbox-rows.mjs): the forced cells as the released guide's own fill.sh prints them over the translation 16576dd5ea7f88a6… (all of the seat's roots in one cut). By AI agents, Wed Nov 11 2026. No macro, syntax, notation, axiom, sorry.
-/
import Derived.Test.YthehhncokikgcaaChecked
import GoSem.Claim
import GoSem.ClaimJoined
import GoSem.ClaimMapViews
import Derived.JoinedTies
import Derived.KernelRfl
namespace Go.Proofs.Ythehhncokikgcaa
/- THE CELL 'sum', in the pinned program and in every row, IS THE sha256 OF THE DUMP (.gsa) THAT YthehhncokikgcaaProg.lean LOADS. Nothing in Lean hashes anything: it is a label: what it is worth is what the hold of that sum in a sandbox is worth. -/
noncomputable def Try.pinned : Pinned := { name := "ythehhncokikgcaa", sum := "16576dd5ea7f88a641a9a2e975da807de706a01422eb3c79df5172b017eaaf3b", checked := Try.checked }
namespace Rows
def none {H : Type} : Left H := { results := [], args := [] }

/-- 'laws.FnGathers': WHATEVER THE INPUT: true; the input reads as it did. -/
def fnGathersSpec : ChangeSpec := { name := "fnGathers", fn := fun _ => fun
  | [d] => { results := [.lit (.bool true)], args := [d] }
  | _ => none }
def fnGathersRow : OpenClaim := { program := "ythehhncokikgcaa", sum := "16576dd5ea7f88a641a9a2e975da807de706a01422eb3c79df5172b017eaaf3b", func := "loop.example/g00657/laws.FnGathers", spec := "fnGathers", unfollowed := true, recurses := true, apart := false }
def FnGathersSaid : Prop := fnGathersRow.holds Try.pinned (OpenSpec.ofChange fnGathersSpec)

/-- ITS FALSE NEIGHBOUR: 'it returns false'. Refute it at one input. -/
def fnGathersWrong : ChangeSpec := { name := "fnGathers", fn := fun _ => fun
  | [d] => { results := [.lit (.bool false)], args := [d] }
  | _ => none }
def FnGathersWrongFalsely : Prop := fnGathersRow.holds Try.pinned (OpenSpec.ofChange fnGathersWrong)

/-- 'laws.FnExactCentralBounds': WHATEVER THE INPUT: true; the input reads as it did. -/
def fnExactCentralBoundsSpec : ChangeSpec := { name := "fnExactCentralBounds", fn := fun _ => fun
  | [d] => { results := [.lit (.bool true)], args := [d] }
  | _ => none }
def fnExactCentralBoundsRow : OpenClaim := { program := "ythehhncokikgcaa", sum := "16576dd5ea7f88a641a9a2e975da807de706a01422eb3c79df5172b017eaaf3b", func := "loop.example/g00657/laws.FnExactCentralBounds", spec := "fnExactCentralBounds", unfollowed := true, recurses := true, apart := false }
def FnExactCentralBoundsSaid : Prop := fnExactCentralBoundsRow.holds Try.pinned (OpenSpec.ofChange fnExactCentralBoundsSpec)

/-- ITS FALSE NEIGHBOUR: 'it returns false'. Refute it at one input. -/
def fnExactCentralBoundsWrong : ChangeSpec := { name := "fnExactCentralBounds", fn := fun _ => fun
  | [d] => { results := [.lit (.bool false)], args := [d] }
  | _ => none }
def FnExactCentralBoundsWrongFalsely : Prop := fnExactCentralBoundsRow.holds Try.pinned (OpenSpec.ofChange fnExactCentralBoundsWrong)

/-- 'laws.FnExactPartCoefs': WHATEVER THE INPUT: true; the input reads as it did. -/
def fnExactPartCoefsSpec : ChangeSpec := { name := "fnExactPartCoefs", fn := fun _ => fun
  | [d] => { results := [.lit (.bool true)], args := [d] }
  | _ => none }
def fnExactPartCoefsRow : OpenClaim := { program := "ythehhncokikgcaa", sum := "16576dd5ea7f88a641a9a2e975da807de706a01422eb3c79df5172b017eaaf3b", func := "loop.example/g00657/laws.FnExactPartCoefs", spec := "fnExactPartCoefs", unfollowed := true, recurses := true, apart := false }
def FnExactPartCoefsSaid : Prop := fnExactPartCoefsRow.holds Try.pinned (OpenSpec.ofChange fnExactPartCoefsSpec)

/-- ITS FALSE NEIGHBOUR: 'it returns false'. Refute it at one input. -/
def fnExactPartCoefsWrong : ChangeSpec := { name := "fnExactPartCoefs", fn := fun _ => fun
  | [d] => { results := [.lit (.bool false)], args := [d] }
  | _ => none }
def FnExactPartCoefsWrongFalsely : Prop := fnExactPartCoefsRow.holds Try.pinned (OpenSpec.ofChange fnExactPartCoefsWrong)

/-- 'laws.FnExactPartBoundsOf': WHATEVER THE INPUT: true; the input reads as it did. -/
def fnExactPartBoundsOfSpec : ChangeSpec := { name := "fnExactPartBoundsOf", fn := fun _ => fun
  | [d] => { results := [.lit (.bool true)], args := [d] }
  | _ => none }
def fnExactPartBoundsOfRow : OpenClaim := { program := "ythehhncokikgcaa", sum := "16576dd5ea7f88a641a9a2e975da807de706a01422eb3c79df5172b017eaaf3b", func := "loop.example/g00657/laws.FnExactPartBoundsOf", spec := "fnExactPartBoundsOf", unfollowed := true, recurses := true, apart := false }
def FnExactPartBoundsOfSaid : Prop := fnExactPartBoundsOfRow.holds Try.pinned (OpenSpec.ofChange fnExactPartBoundsOfSpec)

/-- ITS FALSE NEIGHBOUR: 'it returns false'. Refute it at one input. -/
def fnExactPartBoundsOfWrong : ChangeSpec := { name := "fnExactPartBoundsOf", fn := fun _ => fun
  | [d] => { results := [.lit (.bool false)], args := [d] }
  | _ => none }
def FnExactPartBoundsOfWrongFalsely : Prop := fnExactPartBoundsOfRow.holds Try.pinned (OpenSpec.ofChange fnExactPartBoundsOfWrong)

/-- 'laws.FnExactPartOf': WHATEVER THE INPUT: true; the input reads as it did. -/
def fnExactPartOfSpec : ChangeSpec := { name := "fnExactPartOf", fn := fun _ => fun
  | [d1, d2] => { results := [.lit (.bool true)], args := [d1, d2] }
  | _ => none }
def fnExactPartOfRow : OpenClaim := { program := "ythehhncokikgcaa", sum := "16576dd5ea7f88a641a9a2e975da807de706a01422eb3c79df5172b017eaaf3b", func := "loop.example/g00657/laws.FnExactPartOf", spec := "fnExactPartOf", unfollowed := true, recurses := true, apart := false }
def FnExactPartOfSaid : Prop := fnExactPartOfRow.holds Try.pinned (OpenSpec.ofChange fnExactPartOfSpec)

/-- ITS FALSE NEIGHBOUR: 'it returns false'. Refute it at one input. -/
def fnExactPartOfWrong : ChangeSpec := { name := "fnExactPartOf", fn := fun _ => fun
  | [d1, d2] => { results := [.lit (.bool false)], args := [d1, d2] }
  | _ => none }
def FnExactPartOfWrongFalsely : Prop := fnExactPartOfRow.holds Try.pinned (OpenSpec.ofChange fnExactPartOfWrong)

/-- 'laws.FnExactMakeFrame': WHATEVER THE INPUT: true; the input reads as it did. -/
def fnExactMakeFrameSpec : ChangeSpec := { name := "fnExactMakeFrame", fn := fun _ => fun
  | [d1, d2, d3, d4, d5] => { results := [.lit (.bool true)], args := [d1, d2, d3, d4, d5] }
  | _ => none }
def fnExactMakeFrameRow : OpenClaim := { program := "ythehhncokikgcaa", sum := "16576dd5ea7f88a641a9a2e975da807de706a01422eb3c79df5172b017eaaf3b", func := "loop.example/g00657/laws.FnExactMakeFrame", spec := "fnExactMakeFrame", unfollowed := true, recurses := true, apart := false }
def FnExactMakeFrameSaid : Prop := fnExactMakeFrameRow.holds Try.pinned (OpenSpec.ofChange fnExactMakeFrameSpec)

/-- ITS FALSE NEIGHBOUR: 'it returns false'. Refute it at one input. -/
def fnExactMakeFrameWrong : ChangeSpec := { name := "fnExactMakeFrame", fn := fun _ => fun
  | [d1, d2, d3, d4, d5] => { results := [.lit (.bool false)], args := [d1, d2, d3, d4, d5] }
  | _ => none }
def FnExactMakeFrameWrongFalsely : Prop := fnExactMakeFrameRow.holds Try.pinned (OpenSpec.ofChange fnExactMakeFrameWrong)

/- THE SECOND FORM. 'bulk': how many values and letters a reading holds, each counted each time it is reached (what is shared counts as often as it is met; a slice's spare places count too). A statement '..UptoSaid' is the law's where the arguments, and the package variables that the reading takes, are together of bulk at most 1048576: NARROWER than '..Said'. Prove '..Said' where nothing that the law and all that it calls make is longer than what came in: it says more and counts as full. Else prove '..UptoSaid'. A law counts once. -/
mutual
def uptoBulk {H : Type} : DataW H → Nat
  | .lit (.string bytes) => bytes.length + 1
  | .lit _ => 1
  | .nil => 1
  | .ptr d => uptoBulk d + 1
  | .slice elems spare => uptoBulkAll elems + uptoBulkAll spare + 1
  | .agg parts => uptoBulkAll parts + 1
  | .iface _ d => uptoBulk d + 1
  | .map entries => uptoBulkEntries entries + 1
  | .held _ => 1
def uptoBulkAll {H : Type} : List (DataW H) → Nat
  | [] => 0
  | d :: r => uptoBulk d + uptoBulkAll r
def uptoBulkEntries {H : Type} : List (Lit × DataW H) → Nat
  | [] => 0
  | x :: r => uptoBulkEntry x + uptoBulkEntries r
def uptoBulkEntry {H : Type} : Lit × DataW H → Nat
  | (.string bytes, d) => bytes.length + uptoBulk d + 1
  | (_, d) => uptoBulk d + 1
 end
def uptoSmall : (H : Type) → List (DataW H) → Bool := fun _ ds => decide (uptoBulkAll ds ≤ 1048576)
def OpenSpec.upto (s : _root_.Go.ChangeSpec) : _root_.Go.OpenSpec := { _root_.Go.OpenSpec.ofChange s with cond := some uptoSmall }

/-- 'laws.FnGathers', WHERE WHAT IT READS IS OF BULK AT MOST 1048576: true; the input reads as it did. -/
def fnGathersUptoRow : OpenClaim := { program := "ythehhncokikgcaa", sum := "16576dd5ea7f88a641a9a2e975da807de706a01422eb3c79df5172b017eaaf3b", func := "loop.example/g00657/laws.FnGathers", spec := "fnGathers", unfollowed := true, recurses := true, apart := false, narrowed := true }
def FnGathersUptoSaid : Prop := fnGathersUptoRow.holds Try.pinned (OpenSpec.upto fnGathersSpec)

/-- 'laws.FnExactCentralBounds', WHERE WHAT IT READS IS OF BULK AT MOST 1048576: true; the input reads as it did. -/
def fnExactCentralBoundsUptoRow : OpenClaim := { program := "ythehhncokikgcaa", sum := "16576dd5ea7f88a641a9a2e975da807de706a01422eb3c79df5172b017eaaf3b", func := "loop.example/g00657/laws.FnExactCentralBounds", spec := "fnExactCentralBounds", unfollowed := true, recurses := true, apart := false, narrowed := true }
def FnExactCentralBoundsUptoSaid : Prop := fnExactCentralBoundsUptoRow.holds Try.pinned (OpenSpec.upto fnExactCentralBoundsSpec)

/-- 'laws.FnExactPartCoefs', WHERE WHAT IT READS IS OF BULK AT MOST 1048576: true; the input reads as it did. -/
def fnExactPartCoefsUptoRow : OpenClaim := { program := "ythehhncokikgcaa", sum := "16576dd5ea7f88a641a9a2e975da807de706a01422eb3c79df5172b017eaaf3b", func := "loop.example/g00657/laws.FnExactPartCoefs", spec := "fnExactPartCoefs", unfollowed := true, recurses := true, apart := false, narrowed := true }
def FnExactPartCoefsUptoSaid : Prop := fnExactPartCoefsUptoRow.holds Try.pinned (OpenSpec.upto fnExactPartCoefsSpec)

/-- 'laws.FnExactPartBoundsOf', WHERE WHAT IT READS IS OF BULK AT MOST 1048576: true; the input reads as it did. -/
def fnExactPartBoundsOfUptoRow : OpenClaim := { program := "ythehhncokikgcaa", sum := "16576dd5ea7f88a641a9a2e975da807de706a01422eb3c79df5172b017eaaf3b", func := "loop.example/g00657/laws.FnExactPartBoundsOf", spec := "fnExactPartBoundsOf", unfollowed := true, recurses := true, apart := false, narrowed := true }
def FnExactPartBoundsOfUptoSaid : Prop := fnExactPartBoundsOfUptoRow.holds Try.pinned (OpenSpec.upto fnExactPartBoundsOfSpec)

/-- 'laws.FnExactPartOf', WHERE WHAT IT READS IS OF BULK AT MOST 1048576: true; the input reads as it did. -/
def fnExactPartOfUptoRow : OpenClaim := { program := "ythehhncokikgcaa", sum := "16576dd5ea7f88a641a9a2e975da807de706a01422eb3c79df5172b017eaaf3b", func := "loop.example/g00657/laws.FnExactPartOf", spec := "fnExactPartOf", unfollowed := true, recurses := true, apart := false, narrowed := true }
def FnExactPartOfUptoSaid : Prop := fnExactPartOfUptoRow.holds Try.pinned (OpenSpec.upto fnExactPartOfSpec)

/-- 'laws.FnExactMakeFrame', WHERE WHAT IT READS IS OF BULK AT MOST 1048576: true; the input reads as it did. -/
def fnExactMakeFrameUptoRow : OpenClaim := { program := "ythehhncokikgcaa", sum := "16576dd5ea7f88a641a9a2e975da807de706a01422eb3c79df5172b017eaaf3b", func := "loop.example/g00657/laws.FnExactMakeFrame", spec := "fnExactMakeFrame", unfollowed := true, recurses := true, apart := false, narrowed := true }
def FnExactMakeFrameUptoSaid : Prop := fnExactMakeFrameUptoRow.holds Try.pinned (OpenSpec.upto fnExactMakeFrameSpec)

end Rows
end Go.Proofs.Ythehhncokikgcaa
