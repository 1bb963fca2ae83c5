/-
  No cell of these rows narrows 'for every input' (looked for: loops, veiled, ifaces, maps, wideKeys, modest, calm, conditions, laid).
  DERIVED. THE GIVEN ROWS OF THIS SEAT. 12 by the template 'for every input the law returns true; each argument reads behind the call as it read before'; 0 by the template 'total and deterministic' (their statements: YtndipkclmecpoaaTotals.lean).
  GIVEN WITH THE SEED: the statements are not yours to turn. If you find one false, say at which input.
  Laid BY PROGRAM, IN A SANDBOX (cutbox-rows.mjs): the forced cells as the released guide's own fill.sh prints them over the translation 0ce6f7c4855bf74c… (all of the seat's roots in one cut). By AI agents, Wed Nov 11 2026. No macro, syntax, notation, axiom, sorry.
-/
import Derived.Test.YtndipkclmecpoaaChecked
import GoSem.Claim
import GoSem.ClaimJoined
import GoSem.ClaimMapViews
import Derived.JoinedTies
import Derived.KernelRfl
namespace Go.Proofs.Ytndipkclmecpoaa
/- THE CELL 'sum', in the pinned program and in every row, IS THE sha256 OF THE DUMP (.gsa) THAT YtndipkclmecpoaaProg.lean LOADS. Nothing in Lean hashes anything: it is a label: what it is worth is what the hold of that sum in a sandbox is worth. -/
noncomputable def Try.pinned : Pinned := { name := "ytndipkclmecpoaa", sum := "0ce6f7c4855bf74c59df8cf9be1ad7804f0ac21a81ec37428c7b18911ca7a990", checked := Try.checked }
namespace Rows
def none {H : Type} : Left H := { results := [], args := [] }

/-- 'laws.FnExactTexel': WHATEVER THE INPUT: true; the input reads as it did. -/
def fnExactTexelSpec : ChangeSpec := { name := "fnExactTexel", fn := fun _ => fun
  | [d1, d2, d3] => { results := [.lit (.bool true)], args := [d1, d2, d3] }
  | _ => none }
def fnExactTexelRow : OpenClaim := { program := "ytndipkclmecpoaa", sum := "0ce6f7c4855bf74c59df8cf9be1ad7804f0ac21a81ec37428c7b18911ca7a990", func := "loop.example/g00809/laws.FnExactTexel", spec := "fnExactTexel", apart := false }
def FnExactTexelSaid : Prop := fnExactTexelRow.holds Try.pinned (OpenSpec.ofChange fnExactTexelSpec)

/-- ITS FALSE NEIGHBOUR: 'it returns false'. Refute it at one input. -/
def fnExactTexelWrong : ChangeSpec := { name := "fnExactTexel", fn := fun _ => fun
  | [d1, d2, d3] => { results := [.lit (.bool false)], args := [d1, d2, d3] }
  | _ => none }
def FnExactTexelWrongFalsely : Prop := fnExactTexelRow.holds Try.pinned (OpenSpec.ofChange fnExactTexelWrong)

/-- 'laws.FnExactSameFilm': WHATEVER THE INPUT: true; the input reads as it did. -/
def fnExactSameFilmSpec : ChangeSpec := { name := "fnExactSameFilm", fn := fun _ => fun
  | [d1, d2] => { results := [.lit (.bool true)], args := [d1, d2] }
  | _ => none }
def fnExactSameFilmRow : OpenClaim := { program := "ytndipkclmecpoaa", sum := "0ce6f7c4855bf74c59df8cf9be1ad7804f0ac21a81ec37428c7b18911ca7a990", func := "loop.example/g00809/laws.FnExactSameFilm", spec := "fnExactSameFilm", apart := false }
def FnExactSameFilmSaid : Prop := fnExactSameFilmRow.holds Try.pinned (OpenSpec.ofChange fnExactSameFilmSpec)

/-- ITS FALSE NEIGHBOUR: 'it returns false'. Refute it at one input. -/
def fnExactSameFilmWrong : ChangeSpec := { name := "fnExactSameFilm", fn := fun _ => fun
  | [d1, d2] => { results := [.lit (.bool false)], args := [d1, d2] }
  | _ => none }
def FnExactSameFilmWrongFalsely : Prop := fnExactSameFilmRow.holds Try.pinned (OpenSpec.ofChange fnExactSameFilmWrong)

/-- 'laws.FnExactCompareImages': WHATEVER THE INPUT: true; the input reads as it did. -/
def fnExactCompareImagesSpec : ChangeSpec := { name := "fnExactCompareImages", fn := fun _ => fun
  | [d1, d2] => { results := [.lit (.bool true)], args := [d1, d2] }
  | _ => none }
def fnExactCompareImagesRow : OpenClaim := { program := "ytndipkclmecpoaa", sum := "0ce6f7c4855bf74c59df8cf9be1ad7804f0ac21a81ec37428c7b18911ca7a990", func := "loop.example/g00809/laws.FnExactCompareImages", spec := "fnExactCompareImages", apart := false }
def FnExactCompareImagesSaid : Prop := fnExactCompareImagesRow.holds Try.pinned (OpenSpec.ofChange fnExactCompareImagesSpec)

/-- ITS FALSE NEIGHBOUR: 'it returns false'. Refute it at one input. -/
def fnExactCompareImagesWrong : ChangeSpec := { name := "fnExactCompareImages", fn := fun _ => fun
  | [d1, d2] => { results := [.lit (.bool false)], args := [d1, d2] }
  | _ => none }
def FnExactCompareImagesWrongFalsely : Prop := fnExactCompareImagesRow.holds Try.pinned (OpenSpec.ofChange fnExactCompareImagesWrong)

/-- 'laws.FnExactNewFilm': WHATEVER THE INPUT: true; the input reads as it did. -/
def fnExactNewFilmSpec : ChangeSpec := { name := "fnExactNewFilm", fn := fun _ => fun
  | [d] => { results := [.lit (.bool true)], args := [d] }
  | _ => none }
def fnExactNewFilmRow : OpenClaim := { program := "ytndipkclmecpoaa", sum := "0ce6f7c4855bf74c59df8cf9be1ad7804f0ac21a81ec37428c7b18911ca7a990", func := "loop.example/g00809/laws.FnExactNewFilm", spec := "fnExactNewFilm", apart := false }
def FnExactNewFilmSaid : Prop := fnExactNewFilmRow.holds Try.pinned (OpenSpec.ofChange fnExactNewFilmSpec)

/-- ITS FALSE NEIGHBOUR: 'it returns false'. Refute it at one input. -/
def fnExactNewFilmWrong : ChangeSpec := { name := "fnExactNewFilm", fn := fun _ => fun
  | [d] => { results := [.lit (.bool false)], args := [d] }
  | _ => none }
def FnExactNewFilmWrongFalsely : Prop := fnExactNewFilmRow.holds Try.pinned (OpenSpec.ofChange fnExactNewFilmWrong)

/-- 'laws.FnExactIsValidFilm': WHATEVER THE INPUT: true; the input reads as it did. -/
def fnExactIsValidFilmSpec : ChangeSpec := { name := "fnExactIsValidFilm", fn := fun _ => fun
  | [d] => { results := [.lit (.bool true)], args := [d] }
  | _ => none }
def fnExactIsValidFilmRow : OpenClaim := { program := "ytndipkclmecpoaa", sum := "0ce6f7c4855bf74c59df8cf9be1ad7804f0ac21a81ec37428c7b18911ca7a990", func := "loop.example/g00809/laws.FnExactIsValidFilm", spec := "fnExactIsValidFilm", apart := false }
def FnExactIsValidFilmSaid : Prop := fnExactIsValidFilmRow.holds Try.pinned (OpenSpec.ofChange fnExactIsValidFilmSpec)

/-- ITS FALSE NEIGHBOUR: 'it returns false'. Refute it at one input. -/
def fnExactIsValidFilmWrong : ChangeSpec := { name := "fnExactIsValidFilm", fn := fun _ => fun
  | [d] => { results := [.lit (.bool false)], args := [d] }
  | _ => none }
def FnExactIsValidFilmWrongFalsely : Prop := fnExactIsValidFilmRow.holds Try.pinned (OpenSpec.ofChange fnExactIsValidFilmWrong)

/-- 'laws.FnExactSimplifyDeep': WHATEVER THE INPUT: true; the input reads as it did. -/
def fnExactSimplifyDeepSpec : ChangeSpec := { name := "fnExactSimplifyDeep", fn := fun _ => fun
  | [d1, d2] => { results := [.lit (.bool true)], args := [d1, d2] }
  | _ => none }
def fnExactSimplifyDeepRow : OpenClaim := { program := "ytndipkclmecpoaa", sum := "0ce6f7c4855bf74c59df8cf9be1ad7804f0ac21a81ec37428c7b18911ca7a990", func := "loop.example/g00809/laws.FnExactSimplifyDeep", spec := "fnExactSimplifyDeep", apart := false }
def FnExactSimplifyDeepSaid : Prop := fnExactSimplifyDeepRow.holds Try.pinned (OpenSpec.ofChange fnExactSimplifyDeepSpec)

/-- ITS FALSE NEIGHBOUR: 'it returns false'. Refute it at one input. -/
def fnExactSimplifyDeepWrong : ChangeSpec := { name := "fnExactSimplifyDeep", fn := fun _ => fun
  | [d1, d2] => { results := [.lit (.bool false)], args := [d1, d2] }
  | _ => none }
def FnExactSimplifyDeepWrongFalsely : Prop := fnExactSimplifyDeepRow.holds Try.pinned (OpenSpec.ofChange fnExactSimplifyDeepWrong)

/-- 'laws.FnExactImageDigest': WHATEVER THE INPUT: true; the input reads as it did. -/
def fnExactImageDigestSpec : ChangeSpec := { name := "fnExactImageDigest", fn := fun _ => fun
  | [d] => { results := [.lit (.bool true)], args := [d] }
  | _ => none }
def fnExactImageDigestRow : OpenClaim := { program := "ytndipkclmecpoaa", sum := "0ce6f7c4855bf74c59df8cf9be1ad7804f0ac21a81ec37428c7b18911ca7a990", func := "loop.example/g00809/laws.FnExactImageDigest", spec := "fnExactImageDigest", apart := false }
def FnExactImageDigestSaid : Prop := fnExactImageDigestRow.holds Try.pinned (OpenSpec.ofChange fnExactImageDigestSpec)

/-- ITS FALSE NEIGHBOUR: 'it returns false'. Refute it at one input. -/
def fnExactImageDigestWrong : ChangeSpec := { name := "fnExactImageDigest", fn := fun _ => fun
  | [d] => { results := [.lit (.bool false)], args := [d] }
  | _ => none }
def FnExactImageDigestWrongFalsely : Prop := fnExactImageDigestRow.holds Try.pinned (OpenSpec.ofChange fnExactImageDigestWrong)

/-- 'laws.FnExactCropImage': WHATEVER THE INPUT: true; the input reads as it did. -/
def fnExactCropImageSpec : ChangeSpec := { name := "fnExactCropImage", fn := fun _ => fun
  | [d1, d2] => { results := [.lit (.bool true)], args := [d1, d2] }
  | _ => none }
def fnExactCropImageRow : OpenClaim := { program := "ytndipkclmecpoaa", sum := "0ce6f7c4855bf74c59df8cf9be1ad7804f0ac21a81ec37428c7b18911ca7a990", func := "loop.example/g00809/laws.FnExactCropImage", spec := "fnExactCropImage", apart := false }
def FnExactCropImageSaid : Prop := fnExactCropImageRow.holds Try.pinned (OpenSpec.ofChange fnExactCropImageSpec)

/-- ITS FALSE NEIGHBOUR: 'it returns false'. Refute it at one input. -/
def fnExactCropImageWrong : ChangeSpec := { name := "fnExactCropImage", fn := fun _ => fun
  | [d1, d2] => { results := [.lit (.bool false)], args := [d1, d2] }
  | _ => none }
def FnExactCropImageWrongFalsely : Prop := fnExactCropImageRow.holds Try.pinned (OpenSpec.ofChange fnExactCropImageWrong)

/-- 'laws.FnExactIsComplete': WHATEVER THE INPUT: true; the input reads as it did. -/
def fnExactIsCompleteSpec : ChangeSpec := { name := "fnExactIsComplete", fn := fun _ => fun
  | [d] => { results := [.lit (.bool true)], args := [d] }
  | _ => none }
def fnExactIsCompleteRow : OpenClaim := { program := "ytndipkclmecpoaa", sum := "0ce6f7c4855bf74c59df8cf9be1ad7804f0ac21a81ec37428c7b18911ca7a990", func := "loop.example/g00809/laws.FnExactIsComplete", spec := "fnExactIsComplete", apart := false }
def FnExactIsCompleteSaid : Prop := fnExactIsCompleteRow.holds Try.pinned (OpenSpec.ofChange fnExactIsCompleteSpec)

/-- ITS FALSE NEIGHBOUR: 'it returns false'. Refute it at one input. -/
def fnExactIsCompleteWrong : ChangeSpec := { name := "fnExactIsComplete", fn := fun _ => fun
  | [d] => { results := [.lit (.bool false)], args := [d] }
  | _ => none }
def FnExactIsCompleteWrongFalsely : Prop := fnExactIsCompleteRow.holds Try.pinned (OpenSpec.ofChange fnExactIsCompleteWrong)

/-- 'laws.FnExactFlipImage': WHATEVER THE INPUT: true; the input reads as it did. -/
def fnExactFlipImageSpec : ChangeSpec := { name := "fnExactFlipImage", fn := fun _ => fun
  | [d] => { results := [.lit (.bool true)], args := [d] }
  | _ => none }
def fnExactFlipImageRow : OpenClaim := { program := "ytndipkclmecpoaa", sum := "0ce6f7c4855bf74c59df8cf9be1ad7804f0ac21a81ec37428c7b18911ca7a990", func := "loop.example/g00809/laws.FnExactFlipImage", spec := "fnExactFlipImage", apart := false }
def FnExactFlipImageSaid : Prop := fnExactFlipImageRow.holds Try.pinned (OpenSpec.ofChange fnExactFlipImageSpec)

/-- ITS FALSE NEIGHBOUR: 'it returns false'. Refute it at one input. -/
def fnExactFlipImageWrong : ChangeSpec := { name := "fnExactFlipImage", fn := fun _ => fun
  | [d] => { results := [.lit (.bool false)], args := [d] }
  | _ => none }
def FnExactFlipImageWrongFalsely : Prop := fnExactFlipImageRow.holds Try.pinned (OpenSpec.ofChange fnExactFlipImageWrong)

/-- 'laws.FnExactResolveAccum': WHATEVER THE INPUT: true; the input reads as it did. -/
def fnExactResolveAccumSpec : ChangeSpec := { name := "fnExactResolveAccum", fn := fun _ => fun
  | [d] => { results := [.lit (.bool true)], args := [d] }
  | _ => none }
def fnExactResolveAccumRow : OpenClaim := { program := "ytndipkclmecpoaa", sum := "0ce6f7c4855bf74c59df8cf9be1ad7804f0ac21a81ec37428c7b18911ca7a990", func := "loop.example/g00809/laws.FnExactResolveAccum", spec := "fnExactResolveAccum", apart := false }
def FnExactResolveAccumSaid : Prop := fnExactResolveAccumRow.holds Try.pinned (OpenSpec.ofChange fnExactResolveAccumSpec)

/-- ITS FALSE NEIGHBOUR: 'it returns false'. Refute it at one input. -/
def fnExactResolveAccumWrong : ChangeSpec := { name := "fnExactResolveAccum", fn := fun _ => fun
  | [d] => { results := [.lit (.bool false)], args := [d] }
  | _ => none }
def FnExactResolveAccumWrongFalsely : Prop := fnExactResolveAccumRow.holds Try.pinned (OpenSpec.ofChange fnExactResolveAccumWrong)

/-- 'laws.FnExactMergeAccums': WHATEVER THE INPUT: true; the input reads as it did. -/
def fnExactMergeAccumsSpec : ChangeSpec := { name := "fnExactMergeAccums", fn := fun _ => fun
  | [d1, d2] => { results := [.lit (.bool true)], args := [d1, d2] }
  | _ => none }
def fnExactMergeAccumsRow : OpenClaim := { program := "ytndipkclmecpoaa", sum := "0ce6f7c4855bf74c59df8cf9be1ad7804f0ac21a81ec37428c7b18911ca7a990", func := "loop.example/g00809/laws.FnExactMergeAccums", spec := "fnExactMergeAccums", apart := false }
def FnExactMergeAccumsSaid : Prop := fnExactMergeAccumsRow.holds Try.pinned (OpenSpec.ofChange fnExactMergeAccumsSpec)

/-- ITS FALSE NEIGHBOUR: 'it returns false'. Refute it at one input. -/
def fnExactMergeAccumsWrong : ChangeSpec := { name := "fnExactMergeAccums", fn := fun _ => fun
  | [d1, d2] => { results := [.lit (.bool false)], args := [d1, d2] }
  | _ => none }
def FnExactMergeAccumsWrongFalsely : Prop := fnExactMergeAccumsRow.holds Try.pinned (OpenSpec.ofChange fnExactMergeAccumsWrong)

/- THE SECOND FORM. 'bulk': how many values and letters a reading holds, each counted each time it is reached (what is shared counts as often as it is met; a slice's spare places count too). A statement '..UptoSaid' is the law's where the arguments, and the package variables that the reading takes, are together of bulk at most 1048576: NARROWER than '..Said'. Prove '..Said' where nothing that the law and all that it calls make is longer than what came in: it says more and counts as full. Else prove '..UptoSaid'. A law counts once. -/
mutual
def uptoBulk {H : Type} : DataW H → Nat
  | .lit (.string bytes) => bytes.length + 1
  | .lit _ => 1
  | .nil => 1
  | .ptr d => uptoBulk d + 1
  | .slice elems spare => uptoBulkAll elems + uptoBulkAll spare + 1
  | .agg parts => uptoBulkAll parts + 1
  | .iface _ d => uptoBulk d + 1
  | .map entries => uptoBulkEntries entries + 1
  | .held _ => 1
def uptoBulkAll {H : Type} : List (DataW H) → Nat
  | [] => 0
  | d :: r => uptoBulk d + uptoBulkAll r
def uptoBulkEntries {H : Type} : List (Lit × DataW H) → Nat
  | [] => 0
  | x :: r => uptoBulkEntry x + uptoBulkEntries r
def uptoBulkEntry {H : Type} : Lit × DataW H → Nat
  | (.string bytes, d) => bytes.length + uptoBulk d + 1
  | (_, d) => uptoBulk d + 1
 end
def uptoSmall : (H : Type) → List (DataW H) → Bool := fun _ ds => decide (uptoBulkAll ds ≤ 1048576)
def OpenSpec.upto (s : _root_.Go.ChangeSpec) : _root_.Go.OpenSpec := { _root_.Go.OpenSpec.ofChange s with cond := some uptoSmall }

/-- 'laws.FnExactTexel', WHERE WHAT IT READS IS OF BULK AT MOST 1048576: true; the input reads as it did. -/
def fnExactTexelUptoRow : OpenClaim := { program := "ytndipkclmecpoaa", sum := "0ce6f7c4855bf74c59df8cf9be1ad7804f0ac21a81ec37428c7b18911ca7a990", func := "loop.example/g00809/laws.FnExactTexel", spec := "fnExactTexel", apart := false, narrowed := true }
def FnExactTexelUptoSaid : Prop := fnExactTexelUptoRow.holds Try.pinned (OpenSpec.upto fnExactTexelSpec)

/-- 'laws.FnExactSameFilm', WHERE WHAT IT READS IS OF BULK AT MOST 1048576: true; the input reads as it did. -/
def fnExactSameFilmUptoRow : OpenClaim := { program := "ytndipkclmecpoaa", sum := "0ce6f7c4855bf74c59df8cf9be1ad7804f0ac21a81ec37428c7b18911ca7a990", func := "loop.example/g00809/laws.FnExactSameFilm", spec := "fnExactSameFilm", apart := false, narrowed := true }
def FnExactSameFilmUptoSaid : Prop := fnExactSameFilmUptoRow.holds Try.pinned (OpenSpec.upto fnExactSameFilmSpec)

/-- 'laws.FnExactCompareImages', WHERE WHAT IT READS IS OF BULK AT MOST 1048576: true; the input reads as it did. -/
def fnExactCompareImagesUptoRow : OpenClaim := { program := "ytndipkclmecpoaa", sum := "0ce6f7c4855bf74c59df8cf9be1ad7804f0ac21a81ec37428c7b18911ca7a990", func := "loop.example/g00809/laws.FnExactCompareImages", spec := "fnExactCompareImages", apart := false, narrowed := true }
def FnExactCompareImagesUptoSaid : Prop := fnExactCompareImagesUptoRow.holds Try.pinned (OpenSpec.upto fnExactCompareImagesSpec)

/-- 'laws.FnExactNewFilm', WHERE WHAT IT READS IS OF BULK AT MOST 1048576: true; the input reads as it did. -/
def fnExactNewFilmUptoRow : OpenClaim := { program := "ytndipkclmecpoaa", sum := "0ce6f7c4855bf74c59df8cf9be1ad7804f0ac21a81ec37428c7b18911ca7a990", func := "loop.example/g00809/laws.FnExactNewFilm", spec := "fnExactNewFilm", apart := false, narrowed := true }
def FnExactNewFilmUptoSaid : Prop := fnExactNewFilmUptoRow.holds Try.pinned (OpenSpec.upto fnExactNewFilmSpec)

/-- 'laws.FnExactIsValidFilm', WHERE WHAT IT READS IS OF BULK AT MOST 1048576: true; the input reads as it did. -/
def fnExactIsValidFilmUptoRow : OpenClaim := { program := "ytndipkclmecpoaa", sum := "0ce6f7c4855bf74c59df8cf9be1ad7804f0ac21a81ec37428c7b18911ca7a990", func := "loop.example/g00809/laws.FnExactIsValidFilm", spec := "fnExactIsValidFilm", apart := false, narrowed := true }
def FnExactIsValidFilmUptoSaid : Prop := fnExactIsValidFilmUptoRow.holds Try.pinned (OpenSpec.upto fnExactIsValidFilmSpec)

/-- 'laws.FnExactSimplifyDeep', WHERE WHAT IT READS IS OF BULK AT MOST 1048576: true; the input reads as it did. -/
def fnExactSimplifyDeepUptoRow : OpenClaim := { program := "ytndipkclmecpoaa", sum := "0ce6f7c4855bf74c59df8cf9be1ad7804f0ac21a81ec37428c7b18911ca7a990", func := "loop.example/g00809/laws.FnExactSimplifyDeep", spec := "fnExactSimplifyDeep", apart := false, narrowed := true }
def FnExactSimplifyDeepUptoSaid : Prop := fnExactSimplifyDeepUptoRow.holds Try.pinned (OpenSpec.upto fnExactSimplifyDeepSpec)

/-- 'laws.FnExactImageDigest', WHERE WHAT IT READS IS OF BULK AT MOST 1048576: true; the input reads as it did. -/
def fnExactImageDigestUptoRow : OpenClaim := { program := "ytndipkclmecpoaa", sum := "0ce6f7c4855bf74c59df8cf9be1ad7804f0ac21a81ec37428c7b18911ca7a990", func := "loop.example/g00809/laws.FnExactImageDigest", spec := "fnExactImageDigest", apart := false, narrowed := true }
def FnExactImageDigestUptoSaid : Prop := fnExactImageDigestUptoRow.holds Try.pinned (OpenSpec.upto fnExactImageDigestSpec)

/-- 'laws.FnExactCropImage', WHERE WHAT IT READS IS OF BULK AT MOST 1048576: true; the input reads as it did. -/
def fnExactCropImageUptoRow : OpenClaim := { program := "ytndipkclmecpoaa", sum := "0ce6f7c4855bf74c59df8cf9be1ad7804f0ac21a81ec37428c7b18911ca7a990", func := "loop.example/g00809/laws.FnExactCropImage", spec := "fnExactCropImage", apart := false, narrowed := true }
def FnExactCropImageUptoSaid : Prop := fnExactCropImageUptoRow.holds Try.pinned (OpenSpec.upto fnExactCropImageSpec)

/-- 'laws.FnExactIsComplete', WHERE WHAT IT READS IS OF BULK AT MOST 1048576: true; the input reads as it did. -/
def fnExactIsCompleteUptoRow : OpenClaim := { program := "ytndipkclmecpoaa", sum := "0ce6f7c4855bf74c59df8cf9be1ad7804f0ac21a81ec37428c7b18911ca7a990", func := "loop.example/g00809/laws.FnExactIsComplete", spec := "fnExactIsComplete", apart := false, narrowed := true }
def FnExactIsCompleteUptoSaid : Prop := fnExactIsCompleteUptoRow.holds Try.pinned (OpenSpec.upto fnExactIsCompleteSpec)

/-- 'laws.FnExactFlipImage', WHERE WHAT IT READS IS OF BULK AT MOST 1048576: true; the input reads as it did. -/
def fnExactFlipImageUptoRow : OpenClaim := { program := "ytndipkclmecpoaa", sum := "0ce6f7c4855bf74c59df8cf9be1ad7804f0ac21a81ec37428c7b18911ca7a990", func := "loop.example/g00809/laws.FnExactFlipImage", spec := "fnExactFlipImage", apart := false, narrowed := true }
def FnExactFlipImageUptoSaid : Prop := fnExactFlipImageUptoRow.holds Try.pinned (OpenSpec.upto fnExactFlipImageSpec)

/-- 'laws.FnExactResolveAccum', WHERE WHAT IT READS IS OF BULK AT MOST 1048576: true; the input reads as it did. -/
def fnExactResolveAccumUptoRow : OpenClaim := { program := "ytndipkclmecpoaa", sum := "0ce6f7c4855bf74c59df8cf9be1ad7804f0ac21a81ec37428c7b18911ca7a990", func := "loop.example/g00809/laws.FnExactResolveAccum", spec := "fnExactResolveAccum", apart := false, narrowed := true }
def FnExactResolveAccumUptoSaid : Prop := fnExactResolveAccumUptoRow.holds Try.pinned (OpenSpec.upto fnExactResolveAccumSpec)

/-- 'laws.FnExactMergeAccums', WHERE WHAT IT READS IS OF BULK AT MOST 1048576: true; the input reads as it did. -/
def fnExactMergeAccumsUptoRow : OpenClaim := { program := "ytndipkclmecpoaa", sum := "0ce6f7c4855bf74c59df8cf9be1ad7804f0ac21a81ec37428c7b18911ca7a990", func := "loop.example/g00809/laws.FnExactMergeAccums", spec := "fnExactMergeAccums", apart := false, narrowed := true }
def FnExactMergeAccumsUptoSaid : Prop := fnExactMergeAccumsUptoRow.holds Try.pinned (OpenSpec.upto fnExactMergeAccumsSpec)

end Rows
end Go.Proofs.Ytndipkclmecpoaa
