/-
  NARROWER THAN 'FOR EVERY INPUT', by the rows' own cells (each row's printed sentence says how): FnExactStagedType: loops · FnExactSplitParams: loops · FnExactSafeCtx: loops · FnExactWholeArgs: loops · FnExactCountFunctions: loops · FnExactNamesIn: loops · FnExactEraseStages: loops · FnExactFunctionOf: loops · FnExactCallOf: loops · FnExactLiftOf: loops.
  DERIVED. THE GIVEN ROWS OF THIS SEAT. 12 by the template 'for every input the law returns true; each argument reads behind the call as it read before'; 0 by the template 'total and deterministic' (their statements: YtfeldmpddkmidaaTotals.lean).
  GIVEN WITH THE SEED: the statements are not yours to turn. If you find one false, say at which input.
  Laid BY PROGRAM, IN A SANDBOX (cutbox-rows.mjs): the forced cells as the released guide's own fill.sh prints them over the translation 98cbb945b894fcd5… (all of the seat's roots in one cut). By AI agents, Wed Nov 11 2026. No macro, syntax, notation, axiom, sorry.
-/
import Derived.Test.YtfeldmpddkmidaaChecked
import GoSem.Claim
import GoSem.ClaimJoined
import GoSem.ClaimMapViews
import Derived.JoinedTies
import Derived.KernelRfl
namespace Go.Proofs.Ytfeldmpddkmidaa
/- THE CELL 'sum', in the pinned program and in every row, IS THE sha256 OF THE DUMP (.gsa) THAT YtfeldmpddkmidaaProg.lean LOADS. Nothing in Lean hashes anything: it is a label: what it is worth is what the hold of that sum in a sandbox is worth. -/
noncomputable def Try.pinned : Pinned := { name := "ytfeldmpddkmidaa", sum := "98cbb945b894fcd5cc1a5f26c71201642bb954b4d2a7e9e148396bd6de3dba3b", checked := Try.checked }
namespace Rows
def none {H : Type} : Left H := { results := [], args := [] }

/-- 'laws.FnExactStagedType': WHATEVER THE INPUT: true; the input reads as it did. -/
def fnExactStagedTypeSpec : ChangeSpec := { name := "fnExactStagedType", fn := fun _ => fun
  | [d1, d2] => { results := [.lit (.bool true)], args := [d1, d2] }
  | _ => none }
def fnExactStagedTypeRow : OpenClaim := { program := "ytfeldmpddkmidaa", sum := "98cbb945b894fcd5cc1a5f26c71201642bb954b4d2a7e9e148396bd6de3dba3b", func := "loop.example/g00589/laws.FnExactStagedType", spec := "fnExactStagedType", recurses := true, loops := true, apart := false }
def FnExactStagedTypeSaid : Prop := fnExactStagedTypeRow.holds Try.pinned (OpenSpec.ofChange fnExactStagedTypeSpec)

/-- ITS FALSE NEIGHBOUR: 'it returns false'. Refute it at one input. -/
def fnExactStagedTypeWrong : ChangeSpec := { name := "fnExactStagedType", fn := fun _ => fun
  | [d1, d2] => { results := [.lit (.bool false)], args := [d1, d2] }
  | _ => none }
def FnExactStagedTypeWrongFalsely : Prop := fnExactStagedTypeRow.holds Try.pinned (OpenSpec.ofChange fnExactStagedTypeWrong)

/-- 'laws.FnExactSplitParams': WHATEVER THE INPUT: true; the input reads as it did. -/
def fnExactSplitParamsSpec : ChangeSpec := { name := "fnExactSplitParams", fn := fun _ => fun
  | [d] => { results := [.lit (.bool true)], args := [d] }
  | _ => none }
def fnExactSplitParamsRow : OpenClaim := { program := "ytfeldmpddkmidaa", sum := "98cbb945b894fcd5cc1a5f26c71201642bb954b4d2a7e9e148396bd6de3dba3b", func := "loop.example/g00589/laws.FnExactSplitParams", spec := "fnExactSplitParams", recurses := true, loops := true, apart := false }
def FnExactSplitParamsSaid : Prop := fnExactSplitParamsRow.holds Try.pinned (OpenSpec.ofChange fnExactSplitParamsSpec)

/-- ITS FALSE NEIGHBOUR: 'it returns false'. Refute it at one input. -/
def fnExactSplitParamsWrong : ChangeSpec := { name := "fnExactSplitParams", fn := fun _ => fun
  | [d] => { results := [.lit (.bool false)], args := [d] }
  | _ => none }
def FnExactSplitParamsWrongFalsely : Prop := fnExactSplitParamsRow.holds Try.pinned (OpenSpec.ofChange fnExactSplitParamsWrong)

/-- 'laws.FnExactSafeCtx': WHATEVER THE INPUT: true; the input reads as it did. -/
def fnExactSafeCtxSpec : ChangeSpec := { name := "fnExactSafeCtx", fn := fun _ => fun
  | [d1, d2] => { results := [.lit (.bool true)], args := [d1, d2] }
  | _ => none }
def fnExactSafeCtxRow : OpenClaim := { program := "ytfeldmpddkmidaa", sum := "98cbb945b894fcd5cc1a5f26c71201642bb954b4d2a7e9e148396bd6de3dba3b", func := "loop.example/g00589/laws.FnExactSafeCtx", spec := "fnExactSafeCtx", recurses := true, loops := true, apart := false }
def FnExactSafeCtxSaid : Prop := fnExactSafeCtxRow.holds Try.pinned (OpenSpec.ofChange fnExactSafeCtxSpec)

/-- ITS FALSE NEIGHBOUR: 'it returns false'. Refute it at one input. -/
def fnExactSafeCtxWrong : ChangeSpec := { name := "fnExactSafeCtx", fn := fun _ => fun
  | [d1, d2] => { results := [.lit (.bool false)], args := [d1, d2] }
  | _ => none }
def FnExactSafeCtxWrongFalsely : Prop := fnExactSafeCtxRow.holds Try.pinned (OpenSpec.ofChange fnExactSafeCtxWrong)

/-- 'laws.FnExactWholeArgs': WHATEVER THE INPUT: true; the input reads as it did. -/
def fnExactWholeArgsSpec : ChangeSpec := { name := "fnExactWholeArgs", fn := fun _ => fun
  | [d1, d2, d3] => { results := [.lit (.bool true)], args := [d1, d2, d3] }
  | _ => none }
def fnExactWholeArgsRow : OpenClaim := { program := "ytfeldmpddkmidaa", sum := "98cbb945b894fcd5cc1a5f26c71201642bb954b4d2a7e9e148396bd6de3dba3b", func := "loop.example/g00589/laws.FnExactWholeArgs", spec := "fnExactWholeArgs", recurses := true, loops := true, apart := false }
def FnExactWholeArgsSaid : Prop := fnExactWholeArgsRow.holds Try.pinned (OpenSpec.ofChange fnExactWholeArgsSpec)

/-- ITS FALSE NEIGHBOUR: 'it returns false'. Refute it at one input. -/
def fnExactWholeArgsWrong : ChangeSpec := { name := "fnExactWholeArgs", fn := fun _ => fun
  | [d1, d2, d3] => { results := [.lit (.bool false)], args := [d1, d2, d3] }
  | _ => none }
def FnExactWholeArgsWrongFalsely : Prop := fnExactWholeArgsRow.holds Try.pinned (OpenSpec.ofChange fnExactWholeArgsWrong)

/-- 'laws.FnExactParseType': WHATEVER THE INPUT: true; the input reads as it did. -/
def fnExactParseTypeSpec : ChangeSpec := { name := "fnExactParseType", fn := fun _ => fun
  | [d] => { results := [.lit (.bool true)], args := [d] }
  | _ => none }
def fnExactParseTypeRow : OpenClaim := { program := "ytfeldmpddkmidaa", sum := "98cbb945b894fcd5cc1a5f26c71201642bb954b4d2a7e9e148396bd6de3dba3b", func := "loop.example/g00589/laws.FnExactParseType", spec := "fnExactParseType", unfollowed := true, recurses := true, apart := false }
def FnExactParseTypeSaid : Prop := fnExactParseTypeRow.holds Try.pinned (OpenSpec.ofChange fnExactParseTypeSpec)

/-- ITS FALSE NEIGHBOUR: 'it returns false'. Refute it at one input. -/
def fnExactParseTypeWrong : ChangeSpec := { name := "fnExactParseType", fn := fun _ => fun
  | [d] => { results := [.lit (.bool false)], args := [d] }
  | _ => none }
def FnExactParseTypeWrongFalsely : Prop := fnExactParseTypeRow.holds Try.pinned (OpenSpec.ofChange fnExactParseTypeWrong)

/-- 'laws.FnTypeText': WHATEVER THE INPUT: true; the input reads as it did. -/
def fnTypeTextSpec : ChangeSpec := { name := "fnTypeText", fn := fun _ => fun
  | [d] => { results := [.lit (.bool true)], args := [d] }
  | _ => none }
def fnTypeTextRow : OpenClaim := { program := "ytfeldmpddkmidaa", sum := "98cbb945b894fcd5cc1a5f26c71201642bb954b4d2a7e9e148396bd6de3dba3b", func := "loop.example/g00589/laws.FnTypeText", spec := "fnTypeText", unfollowed := true, recurses := true, apart := false }
def FnTypeTextSaid : Prop := fnTypeTextRow.holds Try.pinned (OpenSpec.ofChange fnTypeTextSpec)

/-- ITS FALSE NEIGHBOUR: 'it returns false'. Refute it at one input. -/
def fnTypeTextWrong : ChangeSpec := { name := "fnTypeText", fn := fun _ => fun
  | [d] => { results := [.lit (.bool false)], args := [d] }
  | _ => none }
def FnTypeTextWrongFalsely : Prop := fnTypeTextRow.holds Try.pinned (OpenSpec.ofChange fnTypeTextWrong)

/-- 'laws.FnExactCountFunctions': WHATEVER THE INPUT: true; the input reads as it did. -/
def fnExactCountFunctionsSpec : ChangeSpec := { name := "fnExactCountFunctions", fn := fun _ => fun
  | [d] => { results := [.lit (.bool true)], args := [d] }
  | _ => none }
def fnExactCountFunctionsRow : OpenClaim := { program := "ytfeldmpddkmidaa", sum := "98cbb945b894fcd5cc1a5f26c71201642bb954b4d2a7e9e148396bd6de3dba3b", func := "loop.example/g00589/laws.FnExactCountFunctions", spec := "fnExactCountFunctions", unfollowed := true, recurses := true, loops := true, apart := false }
def FnExactCountFunctionsSaid : Prop := fnExactCountFunctionsRow.holds Try.pinned (OpenSpec.ofChange fnExactCountFunctionsSpec)

/-- ITS FALSE NEIGHBOUR: 'it returns false'. Refute it at one input. -/
def fnExactCountFunctionsWrong : ChangeSpec := { name := "fnExactCountFunctions", fn := fun _ => fun
  | [d] => { results := [.lit (.bool false)], args := [d] }
  | _ => none }
def FnExactCountFunctionsWrongFalsely : Prop := fnExactCountFunctionsRow.holds Try.pinned (OpenSpec.ofChange fnExactCountFunctionsWrong)

/-- 'laws.FnExactNamesIn': WHATEVER THE INPUT: true; the input reads as it did. -/
def fnExactNamesInSpec : ChangeSpec := { name := "fnExactNamesIn", fn := fun _ => fun
  | [d] => { results := [.lit (.bool true)], args := [d] }
  | _ => none }
def fnExactNamesInRow : OpenClaim := { program := "ytfeldmpddkmidaa", sum := "98cbb945b894fcd5cc1a5f26c71201642bb954b4d2a7e9e148396bd6de3dba3b", func := "loop.example/g00589/laws.FnExactNamesIn", spec := "fnExactNamesIn", recurses := true, loops := true, apart := false }
def FnExactNamesInSaid : Prop := fnExactNamesInRow.holds Try.pinned (OpenSpec.ofChange fnExactNamesInSpec)

/-- ITS FALSE NEIGHBOUR: 'it returns false'. Refute it at one input. -/
def fnExactNamesInWrong : ChangeSpec := { name := "fnExactNamesIn", fn := fun _ => fun
  | [d] => { results := [.lit (.bool false)], args := [d] }
  | _ => none }
def FnExactNamesInWrongFalsely : Prop := fnExactNamesInRow.holds Try.pinned (OpenSpec.ofChange fnExactNamesInWrong)

/-- 'laws.FnExactEraseStages': WHATEVER THE INPUT: true; the input reads as it did. -/
def fnExactEraseStagesSpec : ChangeSpec := { name := "fnExactEraseStages", fn := fun _ => fun
  | [d] => { results := [.lit (.bool true)], args := [d] }
  | _ => none }
def fnExactEraseStagesRow : OpenClaim := { program := "ytfeldmpddkmidaa", sum := "98cbb945b894fcd5cc1a5f26c71201642bb954b4d2a7e9e148396bd6de3dba3b", func := "loop.example/g00589/laws.FnExactEraseStages", spec := "fnExactEraseStages", unfollowed := true, recurses := true, loops := true, apart := false }
def FnExactEraseStagesSaid : Prop := fnExactEraseStagesRow.holds Try.pinned (OpenSpec.ofChange fnExactEraseStagesSpec)

/-- ITS FALSE NEIGHBOUR: 'it returns false'. Refute it at one input. -/
def fnExactEraseStagesWrong : ChangeSpec := { name := "fnExactEraseStages", fn := fun _ => fun
  | [d] => { results := [.lit (.bool false)], args := [d] }
  | _ => none }
def FnExactEraseStagesWrongFalsely : Prop := fnExactEraseStagesRow.holds Try.pinned (OpenSpec.ofChange fnExactEraseStagesWrong)

/-- 'laws.FnExactFunctionOf': WHATEVER THE INPUT: true; the input reads as it did. -/
def fnExactFunctionOfSpec : ChangeSpec := { name := "fnExactFunctionOf", fn := fun _ => fun
  | [d1, d2] => { results := [.lit (.bool true)], args := [d1, d2] }
  | _ => none }
def fnExactFunctionOfRow : OpenClaim := { program := "ytfeldmpddkmidaa", sum := "98cbb945b894fcd5cc1a5f26c71201642bb954b4d2a7e9e148396bd6de3dba3b", func := "loop.example/g00589/laws.FnExactFunctionOf", spec := "fnExactFunctionOf", unfollowed := true, recurses := true, loops := true, apart := false }
def FnExactFunctionOfSaid : Prop := fnExactFunctionOfRow.holds Try.pinned (OpenSpec.ofChange fnExactFunctionOfSpec)

/-- ITS FALSE NEIGHBOUR: 'it returns false'. Refute it at one input. -/
def fnExactFunctionOfWrong : ChangeSpec := { name := "fnExactFunctionOf", fn := fun _ => fun
  | [d1, d2] => { results := [.lit (.bool false)], args := [d1, d2] }
  | _ => none }
def FnExactFunctionOfWrongFalsely : Prop := fnExactFunctionOfRow.holds Try.pinned (OpenSpec.ofChange fnExactFunctionOfWrong)

/-- 'laws.FnExactCallOf': WHATEVER THE INPUT: true; the input reads as it did. -/
def fnExactCallOfSpec : ChangeSpec := { name := "fnExactCallOf", fn := fun _ => fun
  | [d1, d2, d3] => { results := [.lit (.bool true)], args := [d1, d2, d3] }
  | _ => none }
def fnExactCallOfRow : OpenClaim := { program := "ytfeldmpddkmidaa", sum := "98cbb945b894fcd5cc1a5f26c71201642bb954b4d2a7e9e148396bd6de3dba3b", func := "loop.example/g00589/laws.FnExactCallOf", spec := "fnExactCallOf", unfollowed := true, recurses := true, loops := true, apart := false }
def FnExactCallOfSaid : Prop := fnExactCallOfRow.holds Try.pinned (OpenSpec.ofChange fnExactCallOfSpec)

/-- ITS FALSE NEIGHBOUR: 'it returns false'. Refute it at one input. -/
def fnExactCallOfWrong : ChangeSpec := { name := "fnExactCallOf", fn := fun _ => fun
  | [d1, d2, d3] => { results := [.lit (.bool false)], args := [d1, d2, d3] }
  | _ => none }
def FnExactCallOfWrongFalsely : Prop := fnExactCallOfRow.holds Try.pinned (OpenSpec.ofChange fnExactCallOfWrong)

/-- 'laws.FnExactLiftOf': WHATEVER THE INPUT: true; the input reads as it did. -/
def fnExactLiftOfSpec : ChangeSpec := { name := "fnExactLiftOf", fn := fun _ => fun
  | [d] => { results := [.lit (.bool true)], args := [d] }
  | _ => none }
def fnExactLiftOfRow : OpenClaim := { program := "ytfeldmpddkmidaa", sum := "98cbb945b894fcd5cc1a5f26c71201642bb954b4d2a7e9e148396bd6de3dba3b", func := "loop.example/g00589/laws.FnExactLiftOf", spec := "fnExactLiftOf", unfollowed := true, recurses := true, loops := true, apart := false }
def FnExactLiftOfSaid : Prop := fnExactLiftOfRow.holds Try.pinned (OpenSpec.ofChange fnExactLiftOfSpec)

/-- ITS FALSE NEIGHBOUR: 'it returns false'. Refute it at one input. -/
def fnExactLiftOfWrong : ChangeSpec := { name := "fnExactLiftOf", fn := fun _ => fun
  | [d] => { results := [.lit (.bool false)], args := [d] }
  | _ => none }
def FnExactLiftOfWrongFalsely : Prop := fnExactLiftOfRow.holds Try.pinned (OpenSpec.ofChange fnExactLiftOfWrong)

/- THE SECOND FORM. 'bulk': how many values and letters a reading holds, each counted each time it is reached (what is shared counts as often as it is met; a slice's spare places count too). A statement '..UptoSaid' is the law's where the arguments, and the package variables that the reading takes, are together of bulk at most 1048576: NARROWER than '..Said'. Prove '..Said' where nothing that the law and all that it calls make is longer than what came in: it says more and counts as full. Else prove '..UptoSaid'. A law counts once. -/
mutual
def uptoBulk {H : Type} : DataW H → Nat
  | .lit (.string bytes) => bytes.length + 1
  | .lit _ => 1
  | .nil => 1
  | .ptr d => uptoBulk d + 1
  | .slice elems spare => uptoBulkAll elems + uptoBulkAll spare + 1
  | .agg parts => uptoBulkAll parts + 1
  | .iface _ d => uptoBulk d + 1
  | .map entries => uptoBulkEntries entries + 1
  | .held _ => 1
def uptoBulkAll {H : Type} : List (DataW H) → Nat
  | [] => 0
  | d :: r => uptoBulk d + uptoBulkAll r
def uptoBulkEntries {H : Type} : List (Lit × DataW H) → Nat
  | [] => 0
  | x :: r => uptoBulkEntry x + uptoBulkEntries r
def uptoBulkEntry {H : Type} : Lit × DataW H → Nat
  | (.string bytes, d) => bytes.length + uptoBulk d + 1
  | (_, d) => uptoBulk d + 1
 end
def uptoSmall : (H : Type) → List (DataW H) → Bool := fun _ ds => decide (uptoBulkAll ds ≤ 1048576)
def OpenSpec.upto (s : _root_.Go.ChangeSpec) : _root_.Go.OpenSpec := { _root_.Go.OpenSpec.ofChange s with cond := some uptoSmall }

/-- 'laws.FnExactStagedType', WHERE WHAT IT READS IS OF BULK AT MOST 1048576: true; the input reads as it did. -/
def fnExactStagedTypeUptoRow : OpenClaim := { program := "ytfeldmpddkmidaa", sum := "98cbb945b894fcd5cc1a5f26c71201642bb954b4d2a7e9e148396bd6de3dba3b", func := "loop.example/g00589/laws.FnExactStagedType", spec := "fnExactStagedType", recurses := true, loops := true, apart := false, narrowed := true }
def FnExactStagedTypeUptoSaid : Prop := fnExactStagedTypeUptoRow.holds Try.pinned (OpenSpec.upto fnExactStagedTypeSpec)

/-- 'laws.FnExactSplitParams', WHERE WHAT IT READS IS OF BULK AT MOST 1048576: true; the input reads as it did. -/
def fnExactSplitParamsUptoRow : OpenClaim := { program := "ytfeldmpddkmidaa", sum := "98cbb945b894fcd5cc1a5f26c71201642bb954b4d2a7e9e148396bd6de3dba3b", func := "loop.example/g00589/laws.FnExactSplitParams", spec := "fnExactSplitParams", recurses := true, loops := true, apart := false, narrowed := true }
def FnExactSplitParamsUptoSaid : Prop := fnExactSplitParamsUptoRow.holds Try.pinned (OpenSpec.upto fnExactSplitParamsSpec)

/-- 'laws.FnExactSafeCtx', WHERE WHAT IT READS IS OF BULK AT MOST 1048576: true; the input reads as it did. -/
def fnExactSafeCtxUptoRow : OpenClaim := { program := "ytfeldmpddkmidaa", sum := "98cbb945b894fcd5cc1a5f26c71201642bb954b4d2a7e9e148396bd6de3dba3b", func := "loop.example/g00589/laws.FnExactSafeCtx", spec := "fnExactSafeCtx", recurses := true, loops := true, apart := false, narrowed := true }
def FnExactSafeCtxUptoSaid : Prop := fnExactSafeCtxUptoRow.holds Try.pinned (OpenSpec.upto fnExactSafeCtxSpec)

/-- 'laws.FnExactWholeArgs', WHERE WHAT IT READS IS OF BULK AT MOST 1048576: true; the input reads as it did. -/
def fnExactWholeArgsUptoRow : OpenClaim := { program := "ytfeldmpddkmidaa", sum := "98cbb945b894fcd5cc1a5f26c71201642bb954b4d2a7e9e148396bd6de3dba3b", func := "loop.example/g00589/laws.FnExactWholeArgs", spec := "fnExactWholeArgs", recurses := true, loops := true, apart := false, narrowed := true }
def FnExactWholeArgsUptoSaid : Prop := fnExactWholeArgsUptoRow.holds Try.pinned (OpenSpec.upto fnExactWholeArgsSpec)

/-- 'laws.FnExactParseType', WHERE WHAT IT READS IS OF BULK AT MOST 1048576: true; the input reads as it did. -/
def fnExactParseTypeUptoRow : OpenClaim := { program := "ytfeldmpddkmidaa", sum := "98cbb945b894fcd5cc1a5f26c71201642bb954b4d2a7e9e148396bd6de3dba3b", func := "loop.example/g00589/laws.FnExactParseType", spec := "fnExactParseType", unfollowed := true, recurses := true, apart := false, narrowed := true }
def FnExactParseTypeUptoSaid : Prop := fnExactParseTypeUptoRow.holds Try.pinned (OpenSpec.upto fnExactParseTypeSpec)

/-- 'laws.FnTypeText', WHERE WHAT IT READS IS OF BULK AT MOST 1048576: true; the input reads as it did. -/
def fnTypeTextUptoRow : OpenClaim := { program := "ytfeldmpddkmidaa", sum := "98cbb945b894fcd5cc1a5f26c71201642bb954b4d2a7e9e148396bd6de3dba3b", func := "loop.example/g00589/laws.FnTypeText", spec := "fnTypeText", unfollowed := true, recurses := true, apart := false, narrowed := true }
def FnTypeTextUptoSaid : Prop := fnTypeTextUptoRow.holds Try.pinned (OpenSpec.upto fnTypeTextSpec)

/-- 'laws.FnExactCountFunctions', WHERE WHAT IT READS IS OF BULK AT MOST 1048576: true; the input reads as it did. -/
def fnExactCountFunctionsUptoRow : OpenClaim := { program := "ytfeldmpddkmidaa", sum := "98cbb945b894fcd5cc1a5f26c71201642bb954b4d2a7e9e148396bd6de3dba3b", func := "loop.example/g00589/laws.FnExactCountFunctions", spec := "fnExactCountFunctions", unfollowed := true, recurses := true, loops := true, apart := false, narrowed := true }
def FnExactCountFunctionsUptoSaid : Prop := fnExactCountFunctionsUptoRow.holds Try.pinned (OpenSpec.upto fnExactCountFunctionsSpec)

/-- 'laws.FnExactNamesIn', WHERE WHAT IT READS IS OF BULK AT MOST 1048576: true; the input reads as it did. -/
def fnExactNamesInUptoRow : OpenClaim := { program := "ytfeldmpddkmidaa", sum := "98cbb945b894fcd5cc1a5f26c71201642bb954b4d2a7e9e148396bd6de3dba3b", func := "loop.example/g00589/laws.FnExactNamesIn", spec := "fnExactNamesIn", recurses := true, loops := true, apart := false, narrowed := true }
def FnExactNamesInUptoSaid : Prop := fnExactNamesInUptoRow.holds Try.pinned (OpenSpec.upto fnExactNamesInSpec)

/-- 'laws.FnExactEraseStages', WHERE WHAT IT READS IS OF BULK AT MOST 1048576: true; the input reads as it did. -/
def fnExactEraseStagesUptoRow : OpenClaim := { program := "ytfeldmpddkmidaa", sum := "98cbb945b894fcd5cc1a5f26c71201642bb954b4d2a7e9e148396bd6de3dba3b", func := "loop.example/g00589/laws.FnExactEraseStages", spec := "fnExactEraseStages", unfollowed := true, recurses := true, loops := true, apart := false, narrowed := true }
def FnExactEraseStagesUptoSaid : Prop := fnExactEraseStagesUptoRow.holds Try.pinned (OpenSpec.upto fnExactEraseStagesSpec)

/-- 'laws.FnExactFunctionOf', WHERE WHAT IT READS IS OF BULK AT MOST 1048576: true; the input reads as it did. -/
def fnExactFunctionOfUptoRow : OpenClaim := { program := "ytfeldmpddkmidaa", sum := "98cbb945b894fcd5cc1a5f26c71201642bb954b4d2a7e9e148396bd6de3dba3b", func := "loop.example/g00589/laws.FnExactFunctionOf", spec := "fnExactFunctionOf", unfollowed := true, recurses := true, loops := true, apart := false, narrowed := true }
def FnExactFunctionOfUptoSaid : Prop := fnExactFunctionOfUptoRow.holds Try.pinned (OpenSpec.upto fnExactFunctionOfSpec)

/-- 'laws.FnExactCallOf', WHERE WHAT IT READS IS OF BULK AT MOST 1048576: true; the input reads as it did. -/
def fnExactCallOfUptoRow : OpenClaim := { program := "ytfeldmpddkmidaa", sum := "98cbb945b894fcd5cc1a5f26c71201642bb954b4d2a7e9e148396bd6de3dba3b", func := "loop.example/g00589/laws.FnExactCallOf", spec := "fnExactCallOf", unfollowed := true, recurses := true, loops := true, apart := false, narrowed := true }
def FnExactCallOfUptoSaid : Prop := fnExactCallOfUptoRow.holds Try.pinned (OpenSpec.upto fnExactCallOfSpec)

/-- 'laws.FnExactLiftOf', WHERE WHAT IT READS IS OF BULK AT MOST 1048576: true; the input reads as it did. -/
def fnExactLiftOfUptoRow : OpenClaim := { program := "ytfeldmpddkmidaa", sum := "98cbb945b894fcd5cc1a5f26c71201642bb954b4d2a7e9e148396bd6de3dba3b", func := "loop.example/g00589/laws.FnExactLiftOf", spec := "fnExactLiftOf", unfollowed := true, recurses := true, loops := true, apart := false, narrowed := true }
def FnExactLiftOfUptoSaid : Prop := fnExactLiftOfUptoRow.holds Try.pinned (OpenSpec.upto fnExactLiftOfSpec)

end Rows
end Go.Proofs.Ytfeldmpddkmidaa
