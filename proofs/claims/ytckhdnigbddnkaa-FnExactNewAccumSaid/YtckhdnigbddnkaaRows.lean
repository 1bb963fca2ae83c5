/-
  No cell of these rows narrows 'for every input' (looked for: loops, veiled, ifaces, maps, wideKeys, modest, calm, conditions, laid).
  DERIVED. THE GIVEN ROWS OF THIS SEAT. 12 by the template 'for every input the law returns true; each argument reads behind the call as it read before'; 0 by the template 'total and deterministic' (their statements: YtckhdnigbddnkaaTotals.lean).
  GIVEN WITH THE SEED: the statements are not yours to turn. If you find one false, say at which input.
  Laid BY PROGRAM, IN A SANDBOX (cutbox-rows.mjs): the forced cells as the released guide's own fill.sh prints them over the translation 62eee3db81a6a603… (all of the seat's roots in one cut). By AI agents, Wed Nov 11 2026. No macro, syntax, notation, axiom, sorry.
-/
import Derived.Test.YtckhdnigbddnkaaChecked
import GoSem.Claim
import GoSem.ClaimJoined
import GoSem.ClaimMapViews
import Derived.JoinedTies
import Derived.KernelRfl
namespace Go.Proofs.Ytckhdnigbddnkaa
/- THE CELL 'sum', in the pinned program and in every row, IS THE sha256 OF THE DUMP (.gsa) THAT YtckhdnigbddnkaaProg.lean LOADS. Nothing in Lean hashes anything: it is a label: what it is worth is what the hold of that sum in a sandbox is worth. -/
noncomputable def Try.pinned : Pinned := { name := "ytckhdnigbddnkaa", sum := "62eee3db81a6a603b7f3e859f85ac7acc3b4dee4de983d3ae449da9c90423750", checked := Try.checked }
namespace Rows
def none {H : Type} : Left H := { results := [], args := [] }

/-- 'laws.FnExactCrashLog': WHATEVER THE INPUT: true; the input reads as it did. -/
def fnExactCrashLogSpec : ChangeSpec := { name := "fnExactCrashLog", fn := fun _ => fun
  | [d1, d2] => { results := [.lit (.bool true)], args := [d1, d2] }
  | _ => none }
def fnExactCrashLogRow : OpenClaim := { program := "ytckhdnigbddnkaa", sum := "62eee3db81a6a603b7f3e859f85ac7acc3b4dee4de983d3ae449da9c90423750", func := "loop.example/g00809/laws.FnExactCrashLog", spec := "fnExactCrashLog", apart := false }
def FnExactCrashLogSaid : Prop := fnExactCrashLogRow.holds Try.pinned (OpenSpec.ofChange fnExactCrashLogSpec)

/-- ITS FALSE NEIGHBOUR: 'it returns false'. Refute it at one input. -/
def fnExactCrashLogWrong : ChangeSpec := { name := "fnExactCrashLog", fn := fun _ => fun
  | [d1, d2] => { results := [.lit (.bool false)], args := [d1, d2] }
  | _ => none }
def FnExactCrashLogWrongFalsely : Prop := fnExactCrashLogRow.holds Try.pinned (OpenSpec.ofChange fnExactCrashLogWrong)

/-- 'laws.FnExactIsValidFilter': WHATEVER THE INPUT: true; the input reads as it did. -/
def fnExactIsValidFilterSpec : ChangeSpec := { name := "fnExactIsValidFilter", fn := fun _ => fun
  | [d] => { results := [.lit (.bool true)], args := [d] }
  | _ => none }
def fnExactIsValidFilterRow : OpenClaim := { program := "ytckhdnigbddnkaa", sum := "62eee3db81a6a603b7f3e859f85ac7acc3b4dee4de983d3ae449da9c90423750", func := "loop.example/g00809/laws.FnExactIsValidFilter", spec := "fnExactIsValidFilter", apart := false }
def FnExactIsValidFilterSaid : Prop := fnExactIsValidFilterRow.holds Try.pinned (OpenSpec.ofChange fnExactIsValidFilterSpec)

/-- ITS FALSE NEIGHBOUR: 'it returns false'. Refute it at one input. -/
def fnExactIsValidFilterWrong : ChangeSpec := { name := "fnExactIsValidFilter", fn := fun _ => fun
  | [d] => { results := [.lit (.bool false)], args := [d] }
  | _ => none }
def FnExactIsValidFilterWrongFalsely : Prop := fnExactIsValidFilterRow.holds Try.pinned (OpenSpec.ofChange fnExactIsValidFilterWrong)

/-- 'laws.FnExactFilterExtent': WHATEVER THE INPUT: true; the input reads as it did. -/
def fnExactFilterExtentSpec : ChangeSpec := { name := "fnExactFilterExtent", fn := fun _ => fun
  | [d] => { results := [.lit (.bool true)], args := [d] }
  | _ => none }
def fnExactFilterExtentRow : OpenClaim := { program := "ytckhdnigbddnkaa", sum := "62eee3db81a6a603b7f3e859f85ac7acc3b4dee4de983d3ae449da9c90423750", func := "loop.example/g00809/laws.FnExactFilterExtent", spec := "fnExactFilterExtent", apart := false }
def FnExactFilterExtentSaid : Prop := fnExactFilterExtentRow.holds Try.pinned (OpenSpec.ofChange fnExactFilterExtentSpec)

/-- ITS FALSE NEIGHBOUR: 'it returns false'. Refute it at one input. -/
def fnExactFilterExtentWrong : ChangeSpec := { name := "fnExactFilterExtent", fn := fun _ => fun
  | [d] => { results := [.lit (.bool false)], args := [d] }
  | _ => none }
def FnExactFilterExtentWrongFalsely : Prop := fnExactFilterExtentRow.holds Try.pinned (OpenSpec.ofChange fnExactFilterExtentWrong)

/-- 'laws.FnExactIsValidDeep': WHATEVER THE INPUT: true; the input reads as it did. -/
def fnExactIsValidDeepSpec : ChangeSpec := { name := "fnExactIsValidDeep", fn := fun _ => fun
  | [d] => { results := [.lit (.bool true)], args := [d] }
  | _ => none }
def fnExactIsValidDeepRow : OpenClaim := { program := "ytckhdnigbddnkaa", sum := "62eee3db81a6a603b7f3e859f85ac7acc3b4dee4de983d3ae449da9c90423750", func := "loop.example/g00809/laws.FnExactIsValidDeep", spec := "fnExactIsValidDeep", apart := false }
def FnExactIsValidDeepSaid : Prop := fnExactIsValidDeepRow.holds Try.pinned (OpenSpec.ofChange fnExactIsValidDeepSpec)

/-- ITS FALSE NEIGHBOUR: 'it returns false'. Refute it at one input. -/
def fnExactIsValidDeepWrong : ChangeSpec := { name := "fnExactIsValidDeep", fn := fun _ => fun
  | [d] => { results := [.lit (.bool false)], args := [d] }
  | _ => none }
def FnExactIsValidDeepWrongFalsely : Prop := fnExactIsValidDeepRow.holds Try.pinned (OpenSpec.ofChange fnExactIsValidDeepWrong)

/-- 'laws.FnExactIsValidImage': WHATEVER THE INPUT: true; the input reads as it did. -/
def fnExactIsValidImageSpec : ChangeSpec := { name := "fnExactIsValidImage", fn := fun _ => fun
  | [d] => { results := [.lit (.bool true)], args := [d] }
  | _ => none }
def fnExactIsValidImageRow : OpenClaim := { program := "ytckhdnigbddnkaa", sum := "62eee3db81a6a603b7f3e859f85ac7acc3b4dee4de983d3ae449da9c90423750", func := "loop.example/g00809/laws.FnExactIsValidImage", spec := "fnExactIsValidImage", apart := false }
def FnExactIsValidImageSaid : Prop := fnExactIsValidImageRow.holds Try.pinned (OpenSpec.ofChange fnExactIsValidImageSpec)

/-- ITS FALSE NEIGHBOUR: 'it returns false'. Refute it at one input. -/
def fnExactIsValidImageWrong : ChangeSpec := { name := "fnExactIsValidImage", fn := fun _ => fun
  | [d] => { results := [.lit (.bool false)], args := [d] }
  | _ => none }
def FnExactIsValidImageWrongFalsely : Prop := fnExactIsValidImageRow.holds Try.pinned (OpenSpec.ofChange fnExactIsValidImageWrong)

/-- 'laws.FnExactSameImage': WHATEVER THE INPUT: true; the input reads as it did. -/
def fnExactSameImageSpec : ChangeSpec := { name := "fnExactSameImage", fn := fun _ => fun
  | [d1, d2] => { results := [.lit (.bool true)], args := [d1, d2] }
  | _ => none }
def fnExactSameImageRow : OpenClaim := { program := "ytckhdnigbddnkaa", sum := "62eee3db81a6a603b7f3e859f85ac7acc3b4dee4de983d3ae449da9c90423750", func := "loop.example/g00809/laws.FnExactSameImage", spec := "fnExactSameImage", apart := false }
def FnExactSameImageSaid : Prop := fnExactSameImageRow.holds Try.pinned (OpenSpec.ofChange fnExactSameImageSpec)

/-- ITS FALSE NEIGHBOUR: 'it returns false'. Refute it at one input. -/
def fnExactSameImageWrong : ChangeSpec := { name := "fnExactSameImage", fn := fun _ => fun
  | [d1, d2] => { results := [.lit (.bool false)], args := [d1, d2] }
  | _ => none }
def FnExactSameImageWrongFalsely : Prop := fnExactSameImageRow.holds Try.pinned (OpenSpec.ofChange fnExactSameImageWrong)

/-- 'laws.FnExactFilterWindow': WHATEVER THE INPUT: true; the input reads as it did. -/
def fnExactFilterWindowSpec : ChangeSpec := { name := "fnExactFilterWindow", fn := fun _ => fun
  | [d1, d2, d3, d4] => { results := [.lit (.bool true)], args := [d1, d2, d3, d4] }
  | _ => none }
def fnExactFilterWindowRow : OpenClaim := { program := "ytckhdnigbddnkaa", sum := "62eee3db81a6a603b7f3e859f85ac7acc3b4dee4de983d3ae449da9c90423750", func := "loop.example/g00809/laws.FnExactFilterWindow", spec := "fnExactFilterWindow", apart := false }
def FnExactFilterWindowSaid : Prop := fnExactFilterWindowRow.holds Try.pinned (OpenSpec.ofChange fnExactFilterWindowSpec)

/-- ITS FALSE NEIGHBOUR: 'it returns false'. Refute it at one input. -/
def fnExactFilterWindowWrong : ChangeSpec := { name := "fnExactFilterWindow", fn := fun _ => fun
  | [d1, d2, d3, d4] => { results := [.lit (.bool false)], args := [d1, d2, d3, d4] }
  | _ => none }
def FnExactFilterWindowWrongFalsely : Prop := fnExactFilterWindowRow.holds Try.pinned (OpenSpec.ofChange fnExactFilterWindowWrong)

/-- 'laws.FnExactFilterWeight': WHATEVER THE INPUT: true; the input reads as it did. -/
def fnExactFilterWeightSpec : ChangeSpec := { name := "fnExactFilterWeight", fn := fun _ => fun
  | [d1, d2, d3, d4] => { results := [.lit (.bool true)], args := [d1, d2, d3, d4] }
  | _ => none }
def fnExactFilterWeightRow : OpenClaim := { program := "ytckhdnigbddnkaa", sum := "62eee3db81a6a603b7f3e859f85ac7acc3b4dee4de983d3ae449da9c90423750", func := "loop.example/g00809/laws.FnExactFilterWeight", spec := "fnExactFilterWeight", apart := false }
def FnExactFilterWeightSaid : Prop := fnExactFilterWeightRow.holds Try.pinned (OpenSpec.ofChange fnExactFilterWeightSpec)

/-- ITS FALSE NEIGHBOUR: 'it returns false'. Refute it at one input. -/
def fnExactFilterWeightWrong : ChangeSpec := { name := "fnExactFilterWeight", fn := fun _ => fun
  | [d1, d2, d3, d4] => { results := [.lit (.bool false)], args := [d1, d2, d3, d4] }
  | _ => none }
def FnExactFilterWeightWrongFalsely : Prop := fnExactFilterWeightRow.holds Try.pinned (OpenSpec.ofChange fnExactFilterWeightWrong)

/-- 'laws.FnExactSameAccum': WHATEVER THE INPUT: true; the input reads as it did. -/
def fnExactSameAccumSpec : ChangeSpec := { name := "fnExactSameAccum", fn := fun _ => fun
  | [d1, d2] => { results := [.lit (.bool true)], args := [d1, d2] }
  | _ => none }
def fnExactSameAccumRow : OpenClaim := { program := "ytckhdnigbddnkaa", sum := "62eee3db81a6a603b7f3e859f85ac7acc3b4dee4de983d3ae449da9c90423750", func := "loop.example/g00809/laws.FnExactSameAccum", spec := "fnExactSameAccum", apart := false }
def FnExactSameAccumSaid : Prop := fnExactSameAccumRow.holds Try.pinned (OpenSpec.ofChange fnExactSameAccumSpec)

/-- ITS FALSE NEIGHBOUR: 'it returns false'. Refute it at one input. -/
def fnExactSameAccumWrong : ChangeSpec := { name := "fnExactSameAccum", fn := fun _ => fun
  | [d1, d2] => { results := [.lit (.bool false)], args := [d1, d2] }
  | _ => none }
def FnExactSameAccumWrongFalsely : Prop := fnExactSameAccumRow.holds Try.pinned (OpenSpec.ofChange fnExactSameAccumWrong)

/-- 'laws.FnExactNewAccum': WHATEVER THE INPUT: true; the input reads as it did. -/
def fnExactNewAccumSpec : ChangeSpec := { name := "fnExactNewAccum", fn := fun _ => fun
  | [d] => { results := [.lit (.bool true)], args := [d] }
  | _ => none }
def fnExactNewAccumRow : OpenClaim := { program := "ytckhdnigbddnkaa", sum := "62eee3db81a6a603b7f3e859f85ac7acc3b4dee4de983d3ae449da9c90423750", func := "loop.example/g00809/laws.FnExactNewAccum", spec := "fnExactNewAccum", apart := false }
def FnExactNewAccumSaid : Prop := fnExactNewAccumRow.holds Try.pinned (OpenSpec.ofChange fnExactNewAccumSpec)

/-- ITS FALSE NEIGHBOUR: 'it returns false'. Refute it at one input. -/
def fnExactNewAccumWrong : ChangeSpec := { name := "fnExactNewAccum", fn := fun _ => fun
  | [d] => { results := [.lit (.bool false)], args := [d] }
  | _ => none }
def FnExactNewAccumWrongFalsely : Prop := fnExactNewAccumRow.holds Try.pinned (OpenSpec.ofChange fnExactNewAccumWrong)

/-- 'laws.FnExactIsValidAccum': WHATEVER THE INPUT: true; the input reads as it did. -/
def fnExactIsValidAccumSpec : ChangeSpec := { name := "fnExactIsValidAccum", fn := fun _ => fun
  | [d] => { results := [.lit (.bool true)], args := [d] }
  | _ => none }
def fnExactIsValidAccumRow : OpenClaim := { program := "ytckhdnigbddnkaa", sum := "62eee3db81a6a603b7f3e859f85ac7acc3b4dee4de983d3ae449da9c90423750", func := "loop.example/g00809/laws.FnExactIsValidAccum", spec := "fnExactIsValidAccum", apart := false }
def FnExactIsValidAccumSaid : Prop := fnExactIsValidAccumRow.holds Try.pinned (OpenSpec.ofChange fnExactIsValidAccumSpec)

/-- ITS FALSE NEIGHBOUR: 'it returns false'. Refute it at one input. -/
def fnExactIsValidAccumWrong : ChangeSpec := { name := "fnExactIsValidAccum", fn := fun _ => fun
  | [d] => { results := [.lit (.bool false)], args := [d] }
  | _ => none }
def FnExactIsValidAccumWrongFalsely : Prop := fnExactIsValidAccumRow.holds Try.pinned (OpenSpec.ofChange fnExactIsValidAccumWrong)

/-- 'laws.FnExactTransmittance': WHATEVER THE INPUT: true; the input reads as it did. -/
def fnExactTransmittanceSpec : ChangeSpec := { name := "fnExactTransmittance", fn := fun _ => fun
  | [d1, d2] => { results := [.lit (.bool true)], args := [d1, d2] }
  | _ => none }
def fnExactTransmittanceRow : OpenClaim := { program := "ytckhdnigbddnkaa", sum := "62eee3db81a6a603b7f3e859f85ac7acc3b4dee4de983d3ae449da9c90423750", func := "loop.example/g00809/laws.FnExactTransmittance", spec := "fnExactTransmittance", unfollowed := true, recurses := true, apart := false }
def FnExactTransmittanceSaid : Prop := fnExactTransmittanceRow.holds Try.pinned (OpenSpec.ofChange fnExactTransmittanceSpec)

/-- ITS FALSE NEIGHBOUR: 'it returns false'. Refute it at one input. -/
def fnExactTransmittanceWrong : ChangeSpec := { name := "fnExactTransmittance", fn := fun _ => fun
  | [d1, d2] => { results := [.lit (.bool false)], args := [d1, d2] }
  | _ => none }
def FnExactTransmittanceWrongFalsely : Prop := fnExactTransmittanceRow.holds Try.pinned (OpenSpec.ofChange fnExactTransmittanceWrong)

/- THE SECOND FORM. 'bulk': how many values and letters a reading holds, each counted each time it is reached (what is shared counts as often as it is met; a slice's spare places count too). A statement '..UptoSaid' is the law's where the arguments, and the package variables that the reading takes, are together of bulk at most 1048576: NARROWER than '..Said'. Prove '..Said' where nothing that the law and all that it calls make is longer than what came in: it says more and counts as full. Else prove '..UptoSaid'. A law counts once. -/
mutual
def uptoBulk {H : Type} : DataW H → Nat
  | .lit (.string bytes) => bytes.length + 1
  | .lit _ => 1
  | .nil => 1
  | .ptr d => uptoBulk d + 1
  | .slice elems spare => uptoBulkAll elems + uptoBulkAll spare + 1
  | .agg parts => uptoBulkAll parts + 1
  | .iface _ d => uptoBulk d + 1
  | .map entries => uptoBulkEntries entries + 1
  | .held _ => 1
def uptoBulkAll {H : Type} : List (DataW H) → Nat
  | [] => 0
  | d :: r => uptoBulk d + uptoBulkAll r
def uptoBulkEntries {H : Type} : List (Lit × DataW H) → Nat
  | [] => 0
  | x :: r => uptoBulkEntry x + uptoBulkEntries r
def uptoBulkEntry {H : Type} : Lit × DataW H → Nat
  | (.string bytes, d) => bytes.length + uptoBulk d + 1
  | (_, d) => uptoBulk d + 1
 end
def uptoSmall : (H : Type) → List (DataW H) → Bool := fun _ ds => decide (uptoBulkAll ds ≤ 1048576)
def OpenSpec.upto (s : _root_.Go.ChangeSpec) : _root_.Go.OpenSpec := { _root_.Go.OpenSpec.ofChange s with cond := some uptoSmall }

/-- 'laws.FnExactCrashLog', WHERE WHAT IT READS IS OF BULK AT MOST 1048576: true; the input reads as it did. -/
def fnExactCrashLogUptoRow : OpenClaim := { program := "ytckhdnigbddnkaa", sum := "62eee3db81a6a603b7f3e859f85ac7acc3b4dee4de983d3ae449da9c90423750", func := "loop.example/g00809/laws.FnExactCrashLog", spec := "fnExactCrashLog", apart := false, narrowed := true }
def FnExactCrashLogUptoSaid : Prop := fnExactCrashLogUptoRow.holds Try.pinned (OpenSpec.upto fnExactCrashLogSpec)

/-- 'laws.FnExactIsValidFilter', WHERE WHAT IT READS IS OF BULK AT MOST 1048576: true; the input reads as it did. -/
def fnExactIsValidFilterUptoRow : OpenClaim := { program := "ytckhdnigbddnkaa", sum := "62eee3db81a6a603b7f3e859f85ac7acc3b4dee4de983d3ae449da9c90423750", func := "loop.example/g00809/laws.FnExactIsValidFilter", spec := "fnExactIsValidFilter", apart := false, narrowed := true }
def FnExactIsValidFilterUptoSaid : Prop := fnExactIsValidFilterUptoRow.holds Try.pinned (OpenSpec.upto fnExactIsValidFilterSpec)

/-- 'laws.FnExactFilterExtent', WHERE WHAT IT READS IS OF BULK AT MOST 1048576: true; the input reads as it did. -/
def fnExactFilterExtentUptoRow : OpenClaim := { program := "ytckhdnigbddnkaa", sum := "62eee3db81a6a603b7f3e859f85ac7acc3b4dee4de983d3ae449da9c90423750", func := "loop.example/g00809/laws.FnExactFilterExtent", spec := "fnExactFilterExtent", apart := false, narrowed := true }
def FnExactFilterExtentUptoSaid : Prop := fnExactFilterExtentUptoRow.holds Try.pinned (OpenSpec.upto fnExactFilterExtentSpec)

/-- 'laws.FnExactIsValidDeep', WHERE WHAT IT READS IS OF BULK AT MOST 1048576: true; the input reads as it did. -/
def fnExactIsValidDeepUptoRow : OpenClaim := { program := "ytckhdnigbddnkaa", sum := "62eee3db81a6a603b7f3e859f85ac7acc3b4dee4de983d3ae449da9c90423750", func := "loop.example/g00809/laws.FnExactIsValidDeep", spec := "fnExactIsValidDeep", apart := false, narrowed := true }
def FnExactIsValidDeepUptoSaid : Prop := fnExactIsValidDeepUptoRow.holds Try.pinned (OpenSpec.upto fnExactIsValidDeepSpec)

/-- 'laws.FnExactIsValidImage', WHERE WHAT IT READS IS OF BULK AT MOST 1048576: true; the input reads as it did. -/
def fnExactIsValidImageUptoRow : OpenClaim := { program := "ytckhdnigbddnkaa", sum := "62eee3db81a6a603b7f3e859f85ac7acc3b4dee4de983d3ae449da9c90423750", func := "loop.example/g00809/laws.FnExactIsValidImage", spec := "fnExactIsValidImage", apart := false, narrowed := true }
def FnExactIsValidImageUptoSaid : Prop := fnExactIsValidImageUptoRow.holds Try.pinned (OpenSpec.upto fnExactIsValidImageSpec)

/-- 'laws.FnExactSameImage', WHERE WHAT IT READS IS OF BULK AT MOST 1048576: true; the input reads as it did. -/
def fnExactSameImageUptoRow : OpenClaim := { program := "ytckhdnigbddnkaa", sum := "62eee3db81a6a603b7f3e859f85ac7acc3b4dee4de983d3ae449da9c90423750", func := "loop.example/g00809/laws.FnExactSameImage", spec := "fnExactSameImage", apart := false, narrowed := true }
def FnExactSameImageUptoSaid : Prop := fnExactSameImageUptoRow.holds Try.pinned (OpenSpec.upto fnExactSameImageSpec)

/-- 'laws.FnExactFilterWindow', WHERE WHAT IT READS IS OF BULK AT MOST 1048576: true; the input reads as it did. -/
def fnExactFilterWindowUptoRow : OpenClaim := { program := "ytckhdnigbddnkaa", sum := "62eee3db81a6a603b7f3e859f85ac7acc3b4dee4de983d3ae449da9c90423750", func := "loop.example/g00809/laws.FnExactFilterWindow", spec := "fnExactFilterWindow", apart := false, narrowed := true }
def FnExactFilterWindowUptoSaid : Prop := fnExactFilterWindowUptoRow.holds Try.pinned (OpenSpec.upto fnExactFilterWindowSpec)

/-- 'laws.FnExactFilterWeight', WHERE WHAT IT READS IS OF BULK AT MOST 1048576: true; the input reads as it did. -/
def fnExactFilterWeightUptoRow : OpenClaim := { program := "ytckhdnigbddnkaa", sum := "62eee3db81a6a603b7f3e859f85ac7acc3b4dee4de983d3ae449da9c90423750", func := "loop.example/g00809/laws.FnExactFilterWeight", spec := "fnExactFilterWeight", apart := false, narrowed := true }
def FnExactFilterWeightUptoSaid : Prop := fnExactFilterWeightUptoRow.holds Try.pinned (OpenSpec.upto fnExactFilterWeightSpec)

/-- 'laws.FnExactSameAccum', WHERE WHAT IT READS IS OF BULK AT MOST 1048576: true; the input reads as it did. -/
def fnExactSameAccumUptoRow : OpenClaim := { program := "ytckhdnigbddnkaa", sum := "62eee3db81a6a603b7f3e859f85ac7acc3b4dee4de983d3ae449da9c90423750", func := "loop.example/g00809/laws.FnExactSameAccum", spec := "fnExactSameAccum", apart := false, narrowed := true }
def FnExactSameAccumUptoSaid : Prop := fnExactSameAccumUptoRow.holds Try.pinned (OpenSpec.upto fnExactSameAccumSpec)

/-- 'laws.FnExactNewAccum', WHERE WHAT IT READS IS OF BULK AT MOST 1048576: true; the input reads as it did. -/
def fnExactNewAccumUptoRow : OpenClaim := { program := "ytckhdnigbddnkaa", sum := "62eee3db81a6a603b7f3e859f85ac7acc3b4dee4de983d3ae449da9c90423750", func := "loop.example/g00809/laws.FnExactNewAccum", spec := "fnExactNewAccum", apart := false, narrowed := true }
def FnExactNewAccumUptoSaid : Prop := fnExactNewAccumUptoRow.holds Try.pinned (OpenSpec.upto fnExactNewAccumSpec)

/-- 'laws.FnExactIsValidAccum', WHERE WHAT IT READS IS OF BULK AT MOST 1048576: true; the input reads as it did. -/
def fnExactIsValidAccumUptoRow : OpenClaim := { program := "ytckhdnigbddnkaa", sum := "62eee3db81a6a603b7f3e859f85ac7acc3b4dee4de983d3ae449da9c90423750", func := "loop.example/g00809/laws.FnExactIsValidAccum", spec := "fnExactIsValidAccum", apart := false, narrowed := true }
def FnExactIsValidAccumUptoSaid : Prop := fnExactIsValidAccumUptoRow.holds Try.pinned (OpenSpec.upto fnExactIsValidAccumSpec)

/-- 'laws.FnExactTransmittance', WHERE WHAT IT READS IS OF BULK AT MOST 1048576: true; the input reads as it did. -/
def fnExactTransmittanceUptoRow : OpenClaim := { program := "ytckhdnigbddnkaa", sum := "62eee3db81a6a603b7f3e859f85ac7acc3b4dee4de983d3ae449da9c90423750", func := "loop.example/g00809/laws.FnExactTransmittance", spec := "fnExactTransmittance", unfollowed := true, recurses := true, apart := false, narrowed := true }
def FnExactTransmittanceUptoSaid : Prop := fnExactTransmittanceUptoRow.holds Try.pinned (OpenSpec.upto fnExactTransmittanceSpec)

end Rows
end Go.Proofs.Ytckhdnigbddnkaa
