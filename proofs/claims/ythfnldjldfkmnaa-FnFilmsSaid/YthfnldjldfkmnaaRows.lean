/-
  No cell of these rows narrows 'for every input' (looked for: loops, veiled, ifaces, maps, wideKeys, modest, calm, conditions, laid).
  DERIVED. THE GIVEN ROWS OF THIS SEAT. 12 by the template 'for every input the law returns true; each argument reads behind the call as it read before'; 0 by the template 'total and deterministic' (their statements: YthfnldjldfkmnaaTotals.lean).
  GIVEN WITH THE SEED: the statements are not yours to turn. If you find one false, say at which input.
  Laid BY PROGRAM, IN A SANDBOX (cutbox-rows.mjs): the forced cells as the released guide's own fill.sh prints them over the translation fc9bf7a963d32cf0… (all of the seat's roots in one cut). By AI agents, Wed Nov 11 2026. No macro, syntax, notation, axiom, sorry.
-/
import Derived.Test.YthfnldjldfkmnaaChecked
import GoSem.Claim
import GoSem.ClaimJoined
import GoSem.ClaimMapViews
import Derived.JoinedTies
import Derived.KernelRfl
namespace Go.Proofs.Ythfnldjldfkmnaa
/- THE CELL 'sum', in the pinned program and in every row, IS THE sha256 OF THE DUMP (.gsa) THAT YthfnldjldfkmnaaProg.lean LOADS. Nothing in Lean hashes anything: it is a label: what it is worth is what the hold of that sum in a sandbox is worth. -/
noncomputable def Try.pinned : Pinned := { name := "ythfnldjldfkmnaa", sum := "fc9bf7a963d32cf0d4621af7d3b7c810151c97971eb97bc80b88a7029d79e78e", checked := Try.checked }
namespace Rows
def none {H : Type} : Left H := { results := [], args := [] }

/-- 'laws.FnExactApply': WHATEVER THE INPUT: true; the input reads as it did. -/
def fnExactApplySpec : ChangeSpec := { name := "fnExactApply", fn := fun _ => fun
  | [d1, d2] => { results := [.lit (.bool true)], args := [d1, d2] }
  | _ => none }
def fnExactApplyRow : OpenClaim := { program := "ythfnldjldfkmnaa", sum := "fc9bf7a963d32cf0d4621af7d3b7c810151c97971eb97bc80b88a7029d79e78e", func := "loop.example/g00809/laws.FnExactApply", spec := "fnExactApply", unfollowed := true, recurses := true, apart := false }
def FnExactApplySaid : Prop := fnExactApplyRow.holds Try.pinned (OpenSpec.ofChange fnExactApplySpec)

/-- ITS FALSE NEIGHBOUR: 'it returns false'. Refute it at one input. -/
def fnExactApplyWrong : ChangeSpec := { name := "fnExactApply", fn := fun _ => fun
  | [d1, d2] => { results := [.lit (.bool false)], args := [d1, d2] }
  | _ => none }
def FnExactApplyWrongFalsely : Prop := fnExactApplyRow.holds Try.pinned (OpenSpec.ofChange fnExactApplyWrong)

/-- 'laws.FnCompare': WHATEVER THE INPUT: true; the input reads as it did. -/
def fnCompareSpec : ChangeSpec := { name := "fnCompare", fn := fun _ => fun
  | [d] => { results := [.lit (.bool true)], args := [d] }
  | _ => none }
def fnCompareRow : OpenClaim := { program := "ythfnldjldfkmnaa", sum := "fc9bf7a963d32cf0d4621af7d3b7c810151c97971eb97bc80b88a7029d79e78e", func := "loop.example/g00809/laws.FnCompare", spec := "fnCompare", apart := false }
def FnCompareSaid : Prop := fnCompareRow.holds Try.pinned (OpenSpec.ofChange fnCompareSpec)

/-- ITS FALSE NEIGHBOUR: 'it returns false'. Refute it at one input. -/
def fnCompareWrong : ChangeSpec := { name := "fnCompare", fn := fun _ => fun
  | [d] => { results := [.lit (.bool false)], args := [d] }
  | _ => none }
def FnCompareWrongFalsely : Prop := fnCompareRow.holds Try.pinned (OpenSpec.ofChange fnCompareWrong)

/-- 'laws.FnFilterWindow': WHATEVER THE INPUT: true; the input reads as it did. -/
def fnFilterWindowSpec : ChangeSpec := { name := "fnFilterWindow", fn := fun _ => fun
  | [d] => { results := [.lit (.bool true)], args := [d] }
  | _ => none }
def fnFilterWindowRow : OpenClaim := { program := "ythfnldjldfkmnaa", sum := "fc9bf7a963d32cf0d4621af7d3b7c810151c97971eb97bc80b88a7029d79e78e", func := "loop.example/g00809/laws.FnFilterWindow", spec := "fnFilterWindow", apart := false }
def FnFilterWindowSaid : Prop := fnFilterWindowRow.holds Try.pinned (OpenSpec.ofChange fnFilterWindowSpec)

/-- ITS FALSE NEIGHBOUR: 'it returns false'. Refute it at one input. -/
def fnFilterWindowWrong : ChangeSpec := { name := "fnFilterWindow", fn := fun _ => fun
  | [d] => { results := [.lit (.bool false)], args := [d] }
  | _ => none }
def FnFilterWindowWrongFalsely : Prop := fnFilterWindowRow.holds Try.pinned (OpenSpec.ofChange fnFilterWindowWrong)

/-- 'laws.FnAddSample': WHATEVER THE INPUT: true; the input reads as it did. -/
def fnAddSampleSpec : ChangeSpec := { name := "fnAddSample", fn := fun _ => fun
  | [d] => { results := [.lit (.bool true)], args := [d] }
  | _ => none }
def fnAddSampleRow : OpenClaim := { program := "ythfnldjldfkmnaa", sum := "fc9bf7a963d32cf0d4621af7d3b7c810151c97971eb97bc80b88a7029d79e78e", func := "loop.example/g00809/laws.FnAddSample", spec := "fnAddSample", inPlace := ["sync/atomic.AddInt64", "sync/atomic.LoadInt64"], apart := false }
def FnAddSampleSaid : Prop := fnAddSampleRow.holds Try.pinned (OpenSpec.ofChange fnAddSampleSpec)

/-- ITS FALSE NEIGHBOUR: 'it returns false'. Refute it at one input. -/
def fnAddSampleWrong : ChangeSpec := { name := "fnAddSample", fn := fun _ => fun
  | [d] => { results := [.lit (.bool false)], args := [d] }
  | _ => none }
def FnAddSampleWrongFalsely : Prop := fnAddSampleRow.holds Try.pinned (OpenSpec.ofChange fnAddSampleWrong)

/-- 'laws.FnExactAddSample': WHATEVER THE INPUT: true; the input reads as it did. -/
def fnExactAddSampleSpec : ChangeSpec := { name := "fnExactAddSample", fn := fun _ => fun
  | [d1, d2, d3, d4] => { results := [.lit (.bool true)], args := [d1, d2, d3, d4] }
  | _ => none }
def fnExactAddSampleRow : OpenClaim := { program := "ythfnldjldfkmnaa", sum := "fc9bf7a963d32cf0d4621af7d3b7c810151c97971eb97bc80b88a7029d79e78e", func := "loop.example/g00809/laws.FnExactAddSample", spec := "fnExactAddSample", inPlace := ["sync/atomic.AddInt64", "sync/atomic.LoadInt64"], apart := false }
def FnExactAddSampleSaid : Prop := fnExactAddSampleRow.holds Try.pinned (OpenSpec.ofChange fnExactAddSampleSpec)

/-- ITS FALSE NEIGHBOUR: 'it returns false'. Refute it at one input. -/
def fnExactAddSampleWrong : ChangeSpec := { name := "fnExactAddSample", fn := fun _ => fun
  | [d1, d2, d3, d4] => { results := [.lit (.bool false)], args := [d1, d2, d3, d4] }
  | _ => none }
def FnExactAddSampleWrongFalsely : Prop := fnExactAddSampleRow.holds Try.pinned (OpenSpec.ofChange fnExactAddSampleWrong)

/-- 'laws.FnDeep': WHATEVER THE INPUT: true; the input reads as it did. -/
def fnDeepSpec : ChangeSpec := { name := "fnDeep", fn := fun _ => fun
  | [d] => { results := [.lit (.bool true)], args := [d] }
  | _ => none }
def fnDeepRow : OpenClaim := { program := "ythfnldjldfkmnaa", sum := "fc9bf7a963d32cf0d4621af7d3b7c810151c97971eb97bc80b88a7029d79e78e", func := "loop.example/g00809/laws.FnDeep", spec := "fnDeep", unfollowed := true, recurses := true, apart := false }
def FnDeepSaid : Prop := fnDeepRow.holds Try.pinned (OpenSpec.ofChange fnDeepSpec)

/-- ITS FALSE NEIGHBOUR: 'it returns false'. Refute it at one input. -/
def fnDeepWrong : ChangeSpec := { name := "fnDeep", fn := fun _ => fun
  | [d] => { results := [.lit (.bool false)], args := [d] }
  | _ => none }
def FnDeepWrongFalsely : Prop := fnDeepRow.holds Try.pinned (OpenSpec.ofChange fnDeepWrong)

/-- 'laws.FnSimplify': WHATEVER THE INPUT: true; the input reads as it did. -/
def fnSimplifySpec : ChangeSpec := { name := "fnSimplify", fn := fun _ => fun
  | [d] => { results := [.lit (.bool true)], args := [d] }
  | _ => none }
def fnSimplifyRow : OpenClaim := { program := "ythfnldjldfkmnaa", sum := "fc9bf7a963d32cf0d4621af7d3b7c810151c97971eb97bc80b88a7029d79e78e", func := "loop.example/g00809/laws.FnSimplify", spec := "fnSimplify", unfollowed := true, recurses := true, apart := false }
def FnSimplifySaid : Prop := fnSimplifyRow.holds Try.pinned (OpenSpec.ofChange fnSimplifySpec)

/-- ITS FALSE NEIGHBOUR: 'it returns false'. Refute it at one input. -/
def fnSimplifyWrong : ChangeSpec := { name := "fnSimplify", fn := fun _ => fun
  | [d] => { results := [.lit (.bool false)], args := [d] }
  | _ => none }
def FnSimplifyWrongFalsely : Prop := fnSimplifyRow.holds Try.pinned (OpenSpec.ofChange fnSimplifyWrong)

/-- 'laws.FnExactDeepOf': WHATEVER THE INPUT: true; the input reads as it did. -/
def fnExactDeepOfSpec : ChangeSpec := { name := "fnExactDeepOf", fn := fun _ => fun
  | [d] => { results := [.lit (.bool true)], args := [d] }
  | _ => none }
def fnExactDeepOfRow : OpenClaim := { program := "ythfnldjldfkmnaa", sum := "fc9bf7a963d32cf0d4621af7d3b7c810151c97971eb97bc80b88a7029d79e78e", func := "loop.example/g00809/laws.FnExactDeepOf", spec := "fnExactDeepOf", unfollowed := true, recurses := true, apart := false }
def FnExactDeepOfSaid : Prop := fnExactDeepOfRow.holds Try.pinned (OpenSpec.ofChange fnExactDeepOfSpec)

/-- ITS FALSE NEIGHBOUR: 'it returns false'. Refute it at one input. -/
def fnExactDeepOfWrong : ChangeSpec := { name := "fnExactDeepOf", fn := fun _ => fun
  | [d] => { results := [.lit (.bool false)], args := [d] }
  | _ => none }
def FnExactDeepOfWrongFalsely : Prop := fnExactDeepOfRow.holds Try.pinned (OpenSpec.ofChange fnExactDeepOfWrong)

/-- 'laws.FnExactMergeFilms': WHATEVER THE INPUT: true; the input reads as it did. -/
def fnExactMergeFilmsSpec : ChangeSpec := { name := "fnExactMergeFilms", fn := fun _ => fun
  | [d1, d2] => { results := [.lit (.bool true)], args := [d1, d2] }
  | _ => none }
def fnExactMergeFilmsRow : OpenClaim := { program := "ythfnldjldfkmnaa", sum := "fc9bf7a963d32cf0d4621af7d3b7c810151c97971eb97bc80b88a7029d79e78e", func := "loop.example/g00809/laws.FnExactMergeFilms", spec := "fnExactMergeFilms", inPlace := ["(*internal/sync.Mutex).Lock", "internal/race.Disable", "sync/atomic.CompareAndSwapInt32", "internal/race.Enable", "internal/race.Acquire", "(*internal/sync.Mutex).lockSlow", "internal/sync.runtime_canSpin", "internal/sync.runtime_doSpin", "internal/sync.throw", "internal/sync.runtime_nanotime", "internal/sync.runtime_SemacquireMutex", "sync/atomic.AddInt32", "(*internal/sync.Mutex).Unlock", "internal/race.ReleaseMerge", "(*internal/sync.Mutex).unlockSlow", "internal/sync.fatal", "internal/sync.runtime_Semrelease"], apart := false }
def FnExactMergeFilmsSaid : Prop := fnExactMergeFilmsRow.holds Try.pinned (OpenSpec.ofChange fnExactMergeFilmsSpec)

/-- ITS FALSE NEIGHBOUR: 'it returns false'. Refute it at one input. -/
def fnExactMergeFilmsWrong : ChangeSpec := { name := "fnExactMergeFilms", fn := fun _ => fun
  | [d1, d2] => { results := [.lit (.bool false)], args := [d1, d2] }
  | _ => none }
def FnExactMergeFilmsWrongFalsely : Prop := fnExactMergeFilmsRow.holds Try.pinned (OpenSpec.ofChange fnExactMergeFilmsWrong)

/-- 'laws.FnExactMissing': WHATEVER THE INPUT: true; the input reads as it did. -/
def fnExactMissingSpec : ChangeSpec := { name := "fnExactMissing", fn := fun _ => fun
  | [d1, d2] => { results := [.lit (.bool true)], args := [d1, d2] }
  | _ => none }
def fnExactMissingRow : OpenClaim := { program := "ythfnldjldfkmnaa", sum := "fc9bf7a963d32cf0d4621af7d3b7c810151c97971eb97bc80b88a7029d79e78e", func := "loop.example/g00809/laws.FnExactMissing", spec := "fnExactMissing", unfollowed := true, recurses := true, apart := false }
def FnExactMissingSaid : Prop := fnExactMissingRow.holds Try.pinned (OpenSpec.ofChange fnExactMissingSpec)

/-- ITS FALSE NEIGHBOUR: 'it returns false'. Refute it at one input. -/
def fnExactMissingWrong : ChangeSpec := { name := "fnExactMissing", fn := fun _ => fun
  | [d1, d2] => { results := [.lit (.bool false)], args := [d1, d2] }
  | _ => none }
def FnExactMissingWrongFalsely : Prop := fnExactMissingRow.holds Try.pinned (OpenSpec.ofChange fnExactMissingWrong)

/-- 'laws.FnExactPutBucket': WHATEVER THE INPUT: true; the input reads as it did. -/
def fnExactPutBucketSpec : ChangeSpec := { name := "fnExactPutBucket", fn := fun _ => fun
  | [d1, d2, d3] => { results := [.lit (.bool true)], args := [d1, d2, d3] }
  | _ => none }
def fnExactPutBucketRow : OpenClaim := { program := "ythfnldjldfkmnaa", sum := "fc9bf7a963d32cf0d4621af7d3b7c810151c97971eb97bc80b88a7029d79e78e", func := "loop.example/g00809/laws.FnExactPutBucket", spec := "fnExactPutBucket", inPlace := ["(*internal/sync.Mutex).Lock", "internal/race.Disable", "sync/atomic.CompareAndSwapInt32", "internal/race.Enable", "internal/race.Acquire", "(*internal/sync.Mutex).lockSlow", "internal/sync.runtime_canSpin", "internal/sync.runtime_doSpin", "internal/sync.throw", "internal/sync.runtime_nanotime", "internal/sync.runtime_SemacquireMutex", "sync/atomic.AddInt32", "(*internal/sync.Mutex).Unlock", "internal/race.ReleaseMerge", "(*internal/sync.Mutex).unlockSlow", "internal/sync.fatal", "internal/sync.runtime_Semrelease"], apart := false }
def FnExactPutBucketSaid : Prop := fnExactPutBucketRow.holds Try.pinned (OpenSpec.ofChange fnExactPutBucketSpec)

/-- ITS FALSE NEIGHBOUR: 'it returns false'. Refute it at one input. -/
def fnExactPutBucketWrong : ChangeSpec := { name := "fnExactPutBucket", fn := fun _ => fun
  | [d1, d2, d3] => { results := [.lit (.bool false)], args := [d1, d2, d3] }
  | _ => none }
def FnExactPutBucketWrongFalsely : Prop := fnExactPutBucketRow.holds Try.pinned (OpenSpec.ofChange fnExactPutBucketWrong)

/-- 'laws.FnFilms': WHATEVER THE INPUT: true; the input reads as it did. -/
def fnFilmsSpec : ChangeSpec := { name := "fnFilms", fn := fun _ => fun
  | [d] => { results := [.lit (.bool true)], args := [d] }
  | _ => none }
def fnFilmsRow : OpenClaim := { program := "ythfnldjldfkmnaa", sum := "fc9bf7a963d32cf0d4621af7d3b7c810151c97971eb97bc80b88a7029d79e78e", func := "loop.example/g00809/laws.FnFilms", spec := "fnFilms", inPlace := ["(*internal/sync.Mutex).Lock", "internal/race.Disable", "sync/atomic.CompareAndSwapInt32", "internal/race.Enable", "internal/race.Acquire", "(*internal/sync.Mutex).lockSlow", "internal/sync.runtime_canSpin", "internal/sync.runtime_doSpin", "internal/sync.throw", "internal/sync.runtime_nanotime", "internal/sync.runtime_SemacquireMutex", "sync/atomic.AddInt32", "(*internal/sync.Mutex).Unlock", "internal/race.ReleaseMerge", "(*internal/sync.Mutex).unlockSlow", "internal/sync.fatal", "internal/sync.runtime_Semrelease"], apart := false }
def FnFilmsSaid : Prop := fnFilmsRow.holds Try.pinned (OpenSpec.ofChange fnFilmsSpec)

/-- ITS FALSE NEIGHBOUR: 'it returns false'. Refute it at one input. -/
def fnFilmsWrong : ChangeSpec := { name := "fnFilms", fn := fun _ => fun
  | [d] => { results := [.lit (.bool false)], args := [d] }
  | _ => none }
def FnFilmsWrongFalsely : Prop := fnFilmsRow.holds Try.pinned (OpenSpec.ofChange fnFilmsWrong)

/- THE SECOND FORM. 'bulk': how many values and letters a reading holds, each counted each time it is reached (what is shared counts as often as it is met; a slice's spare places count too). A statement '..UptoSaid' is the law's where the arguments, and the package variables that the reading takes, are together of bulk at most 1048576: NARROWER than '..Said'. Prove '..Said' where nothing that the law and all that it calls make is longer than what came in: it says more and counts as full. Else prove '..UptoSaid'. A law counts once. -/
mutual
def uptoBulk {H : Type} : DataW H → Nat
  | .lit (.string bytes) => bytes.length + 1
  | .lit _ => 1
  | .nil => 1
  | .ptr d => uptoBulk d + 1
  | .slice elems spare => uptoBulkAll elems + uptoBulkAll spare + 1
  | .agg parts => uptoBulkAll parts + 1
  | .iface _ d => uptoBulk d + 1
  | .map entries => uptoBulkEntries entries + 1
  | .held _ => 1
def uptoBulkAll {H : Type} : List (DataW H) → Nat
  | [] => 0
  | d :: r => uptoBulk d + uptoBulkAll r
def uptoBulkEntries {H : Type} : List (Lit × DataW H) → Nat
  | [] => 0
  | x :: r => uptoBulkEntry x + uptoBulkEntries r
def uptoBulkEntry {H : Type} : Lit × DataW H → Nat
  | (.string bytes, d) => bytes.length + uptoBulk d + 1
  | (_, d) => uptoBulk d + 1
 end
def uptoSmall : (H : Type) → List (DataW H) → Bool := fun _ ds => decide (uptoBulkAll ds ≤ 1048576)
def OpenSpec.upto (s : _root_.Go.ChangeSpec) : _root_.Go.OpenSpec := { _root_.Go.OpenSpec.ofChange s with cond := some uptoSmall }

/-- 'laws.FnExactApply', WHERE WHAT IT READS IS OF BULK AT MOST 1048576: true; the input reads as it did. -/
def fnExactApplyUptoRow : OpenClaim := { program := "ythfnldjldfkmnaa", sum := "fc9bf7a963d32cf0d4621af7d3b7c810151c97971eb97bc80b88a7029d79e78e", func := "loop.example/g00809/laws.FnExactApply", spec := "fnExactApply", unfollowed := true, recurses := true, apart := false, narrowed := true }
def FnExactApplyUptoSaid : Prop := fnExactApplyUptoRow.holds Try.pinned (OpenSpec.upto fnExactApplySpec)

/-- 'laws.FnCompare', WHERE WHAT IT READS IS OF BULK AT MOST 1048576: true; the input reads as it did. -/
def fnCompareUptoRow : OpenClaim := { program := "ythfnldjldfkmnaa", sum := "fc9bf7a963d32cf0d4621af7d3b7c810151c97971eb97bc80b88a7029d79e78e", func := "loop.example/g00809/laws.FnCompare", spec := "fnCompare", apart := false, narrowed := true }
def FnCompareUptoSaid : Prop := fnCompareUptoRow.holds Try.pinned (OpenSpec.upto fnCompareSpec)

/-- 'laws.FnFilterWindow', WHERE WHAT IT READS IS OF BULK AT MOST 1048576: true; the input reads as it did. -/
def fnFilterWindowUptoRow : OpenClaim := { program := "ythfnldjldfkmnaa", sum := "fc9bf7a963d32cf0d4621af7d3b7c810151c97971eb97bc80b88a7029d79e78e", func := "loop.example/g00809/laws.FnFilterWindow", spec := "fnFilterWindow", apart := false, narrowed := true }
def FnFilterWindowUptoSaid : Prop := fnFilterWindowUptoRow.holds Try.pinned (OpenSpec.upto fnFilterWindowSpec)

/-- 'laws.FnAddSample', WHERE WHAT IT READS IS OF BULK AT MOST 1048576: true; the input reads as it did. -/
def fnAddSampleUptoRow : OpenClaim := { program := "ythfnldjldfkmnaa", sum := "fc9bf7a963d32cf0d4621af7d3b7c810151c97971eb97bc80b88a7029d79e78e", func := "loop.example/g00809/laws.FnAddSample", spec := "fnAddSample", inPlace := ["sync/atomic.AddInt64", "sync/atomic.LoadInt64"], apart := false, narrowed := true }
def FnAddSampleUptoSaid : Prop := fnAddSampleUptoRow.holds Try.pinned (OpenSpec.upto fnAddSampleSpec)

/-- 'laws.FnExactAddSample', WHERE WHAT IT READS IS OF BULK AT MOST 1048576: true; the input reads as it did. -/
def fnExactAddSampleUptoRow : OpenClaim := { program := "ythfnldjldfkmnaa", sum := "fc9bf7a963d32cf0d4621af7d3b7c810151c97971eb97bc80b88a7029d79e78e", func := "loop.example/g00809/laws.FnExactAddSample", spec := "fnExactAddSample", inPlace := ["sync/atomic.AddInt64", "sync/atomic.LoadInt64"], apart := false, narrowed := true }
def FnExactAddSampleUptoSaid : Prop := fnExactAddSampleUptoRow.holds Try.pinned (OpenSpec.upto fnExactAddSampleSpec)

/-- 'laws.FnDeep', WHERE WHAT IT READS IS OF BULK AT MOST 1048576: true; the input reads as it did. -/
def fnDeepUptoRow : OpenClaim := { program := "ythfnldjldfkmnaa", sum := "fc9bf7a963d32cf0d4621af7d3b7c810151c97971eb97bc80b88a7029d79e78e", func := "loop.example/g00809/laws.FnDeep", spec := "fnDeep", unfollowed := true, recurses := true, apart := false, narrowed := true }
def FnDeepUptoSaid : Prop := fnDeepUptoRow.holds Try.pinned (OpenSpec.upto fnDeepSpec)

/-- 'laws.FnSimplify', WHERE WHAT IT READS IS OF BULK AT MOST 1048576: true; the input reads as it did. -/
def fnSimplifyUptoRow : OpenClaim := { program := "ythfnldjldfkmnaa", sum := "fc9bf7a963d32cf0d4621af7d3b7c810151c97971eb97bc80b88a7029d79e78e", func := "loop.example/g00809/laws.FnSimplify", spec := "fnSimplify", unfollowed := true, recurses := true, apart := false, narrowed := true }
def FnSimplifyUptoSaid : Prop := fnSimplifyUptoRow.holds Try.pinned (OpenSpec.upto fnSimplifySpec)

/-- 'laws.FnExactDeepOf', WHERE WHAT IT READS IS OF BULK AT MOST 1048576: true; the input reads as it did. -/
def fnExactDeepOfUptoRow : OpenClaim := { program := "ythfnldjldfkmnaa", sum := "fc9bf7a963d32cf0d4621af7d3b7c810151c97971eb97bc80b88a7029d79e78e", func := "loop.example/g00809/laws.FnExactDeepOf", spec := "fnExactDeepOf", unfollowed := true, recurses := true, apart := false, narrowed := true }
def FnExactDeepOfUptoSaid : Prop := fnExactDeepOfUptoRow.holds Try.pinned (OpenSpec.upto fnExactDeepOfSpec)

/-- 'laws.FnExactMergeFilms', WHERE WHAT IT READS IS OF BULK AT MOST 1048576: true; the input reads as it did. -/
def fnExactMergeFilmsUptoRow : OpenClaim := { program := "ythfnldjldfkmnaa", sum := "fc9bf7a963d32cf0d4621af7d3b7c810151c97971eb97bc80b88a7029d79e78e", func := "loop.example/g00809/laws.FnExactMergeFilms", spec := "fnExactMergeFilms", inPlace := ["(*internal/sync.Mutex).Lock", "internal/race.Disable", "sync/atomic.CompareAndSwapInt32", "internal/race.Enable", "internal/race.Acquire", "(*internal/sync.Mutex).lockSlow", "internal/sync.runtime_canSpin", "internal/sync.runtime_doSpin", "internal/sync.throw", "internal/sync.runtime_nanotime", "internal/sync.runtime_SemacquireMutex", "sync/atomic.AddInt32", "(*internal/sync.Mutex).Unlock", "internal/race.ReleaseMerge", "(*internal/sync.Mutex).unlockSlow", "internal/sync.fatal", "internal/sync.runtime_Semrelease"], apart := false, narrowed := true }
def FnExactMergeFilmsUptoSaid : Prop := fnExactMergeFilmsUptoRow.holds Try.pinned (OpenSpec.upto fnExactMergeFilmsSpec)

/-- 'laws.FnExactMissing', WHERE WHAT IT READS IS OF BULK AT MOST 1048576: true; the input reads as it did. -/
def fnExactMissingUptoRow : OpenClaim := { program := "ythfnldjldfkmnaa", sum := "fc9bf7a963d32cf0d4621af7d3b7c810151c97971eb97bc80b88a7029d79e78e", func := "loop.example/g00809/laws.FnExactMissing", spec := "fnExactMissing", unfollowed := true, recurses := true, apart := false, narrowed := true }
def FnExactMissingUptoSaid : Prop := fnExactMissingUptoRow.holds Try.pinned (OpenSpec.upto fnExactMissingSpec)

/-- 'laws.FnExactPutBucket', WHERE WHAT IT READS IS OF BULK AT MOST 1048576: true; the input reads as it did. -/
def fnExactPutBucketUptoRow : OpenClaim := { program := "ythfnldjldfkmnaa", sum := "fc9bf7a963d32cf0d4621af7d3b7c810151c97971eb97bc80b88a7029d79e78e", func := "loop.example/g00809/laws.FnExactPutBucket", spec := "fnExactPutBucket", inPlace := ["(*internal/sync.Mutex).Lock", "internal/race.Disable", "sync/atomic.CompareAndSwapInt32", "internal/race.Enable", "internal/race.Acquire", "(*internal/sync.Mutex).lockSlow", "internal/sync.runtime_canSpin", "internal/sync.runtime_doSpin", "internal/sync.throw", "internal/sync.runtime_nanotime", "internal/sync.runtime_SemacquireMutex", "sync/atomic.AddInt32", "(*internal/sync.Mutex).Unlock", "internal/race.ReleaseMerge", "(*internal/sync.Mutex).unlockSlow", "internal/sync.fatal", "internal/sync.runtime_Semrelease"], apart := false, narrowed := true }
def FnExactPutBucketUptoSaid : Prop := fnExactPutBucketUptoRow.holds Try.pinned (OpenSpec.upto fnExactPutBucketSpec)

/-- 'laws.FnFilms', WHERE WHAT IT READS IS OF BULK AT MOST 1048576: true; the input reads as it did. -/
def fnFilmsUptoRow : OpenClaim := { program := "ythfnldjldfkmnaa", sum := "fc9bf7a963d32cf0d4621af7d3b7c810151c97971eb97bc80b88a7029d79e78e", func := "loop.example/g00809/laws.FnFilms", spec := "fnFilms", inPlace := ["(*internal/sync.Mutex).Lock", "internal/race.Disable", "sync/atomic.CompareAndSwapInt32", "internal/race.Enable", "internal/race.Acquire", "(*internal/sync.Mutex).lockSlow", "internal/sync.runtime_canSpin", "internal/sync.runtime_doSpin", "internal/sync.throw", "internal/sync.runtime_nanotime", "internal/sync.runtime_SemacquireMutex", "sync/atomic.AddInt32", "(*internal/sync.Mutex).Unlock", "internal/race.ReleaseMerge", "(*internal/sync.Mutex).unlockSlow", "internal/sync.fatal", "internal/sync.runtime_Semrelease"], apart := false, narrowed := true }
def FnFilmsUptoSaid : Prop := fnFilmsUptoRow.holds Try.pinned (OpenSpec.upto fnFilmsSpec)

end Rows
end Go.Proofs.Ythfnldjldfkmnaa
