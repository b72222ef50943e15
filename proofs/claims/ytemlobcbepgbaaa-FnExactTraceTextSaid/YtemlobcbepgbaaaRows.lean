/-
  NARROWER THAN 'FOR EVERY INPUT', by the rows' own cells (each row's printed sentence says how): FnExactLiftOf: loops · FnExactCodePart: loops · FnExactLinearOf: loops · FnExactCompile: loops.
  DERIVED. THE GIVEN ROWS OF THIS SEAT. 11 by the template 'for every input the law returns true; each argument reads behind the call as it read before'; 0 by the template 'total and deterministic' (their statements: YtemlobcbepgbaaaTotals.lean).
  GIVEN WITH THE SEED: the statements are not yours to turn. If you find one false, say at which input.
  Laid BY PROGRAM, IN A SANDBOX (cutbox-rows.mjs): the forced cells as the released guide's own fill.sh prints them over the translation 7e01661e4d3b82af… (all of the seat's roots in one cut). By AI agents, Wed Nov 11 2026. No macro, syntax, notation, axiom, sorry.
-/
import Derived.Test.YtemlobcbepgbaaaChecked
import GoSem.Claim
import GoSem.ClaimJoined
import GoSem.ClaimMapViews
import Derived.JoinedTies
import Derived.KernelRfl
namespace Go.Proofs.Ytemlobcbepgbaaa
/- THE CELL 'sum', in the pinned program and in every row, IS THE sha256 OF THE DUMP (.gsa) THAT YtemlobcbepgbaaaProg.lean LOADS. Nothing in Lean hashes anything: it is a label: what it is worth is what the hold of that sum in a sandbox is worth. -/
noncomputable def Try.pinned : Pinned := { name := "ytemlobcbepgbaaa", sum := "7e01661e4d3b82af10de4271b936e0dae68b4e8ac7ed6b092b73b27a4cd75403", checked := Try.checked }
namespace Rows
def none {H : Type} : Left H := { results := [], args := [] }

/-- 'laws.FnExactLiftOf': WHATEVER THE INPUT: true; the input reads as it did. -/
def fnExactLiftOfSpec : ChangeSpec := { name := "fnExactLiftOf", fn := fun _ => fun
  | [d] => { results := [.lit (.bool true)], args := [d] }
  | _ => none }
def fnExactLiftOfRow : OpenClaim := { program := "ytemlobcbepgbaaa", sum := "7e01661e4d3b82af10de4271b936e0dae68b4e8ac7ed6b092b73b27a4cd75403", func := "loop.example/g00589/laws.FnExactLiftOf", spec := "fnExactLiftOf", unfollowed := true, recurses := true, loops := true, apart := false }
def FnExactLiftOfSaid : Prop := fnExactLiftOfRow.holds Try.pinned (OpenSpec.ofChange fnExactLiftOfSpec)

/-- ITS FALSE NEIGHBOUR: 'it returns false'. Refute it at one input. -/
def fnExactLiftOfWrong : ChangeSpec := { name := "fnExactLiftOf", fn := fun _ => fun
  | [d] => { results := [.lit (.bool false)], args := [d] }
  | _ => none }
def FnExactLiftOfWrongFalsely : Prop := fnExactLiftOfRow.holds Try.pinned (OpenSpec.ofChange fnExactLiftOfWrong)

/-- 'laws.FnExactCodePart': WHATEVER THE INPUT: true; the input reads as it did. -/
def fnExactCodePartSpec : ChangeSpec := { name := "fnExactCodePart", fn := fun _ => fun
  | [d] => { results := [.lit (.bool true)], args := [d] }
  | _ => none }
def fnExactCodePartRow : OpenClaim := { program := "ytemlobcbepgbaaa", sum := "7e01661e4d3b82af10de4271b936e0dae68b4e8ac7ed6b092b73b27a4cd75403", func := "loop.example/g00589/laws.FnExactCodePart", spec := "fnExactCodePart", unfollowed := true, recurses := true, loops := true, apart := false }
def FnExactCodePartSaid : Prop := fnExactCodePartRow.holds Try.pinned (OpenSpec.ofChange fnExactCodePartSpec)

/-- ITS FALSE NEIGHBOUR: 'it returns false'. Refute it at one input. -/
def fnExactCodePartWrong : ChangeSpec := { name := "fnExactCodePart", fn := fun _ => fun
  | [d] => { results := [.lit (.bool false)], args := [d] }
  | _ => none }
def FnExactCodePartWrongFalsely : Prop := fnExactCodePartRow.holds Try.pinned (OpenSpec.ofChange fnExactCodePartWrong)

/-- 'laws.FnExactLinearOf': WHATEVER THE INPUT: true; the input reads as it did. -/
def fnExactLinearOfSpec : ChangeSpec := { name := "fnExactLinearOf", fn := fun _ => fun
  | [d] => { results := [.lit (.bool true)], args := [d] }
  | _ => none }
def fnExactLinearOfRow : OpenClaim := { program := "ytemlobcbepgbaaa", sum := "7e01661e4d3b82af10de4271b936e0dae68b4e8ac7ed6b092b73b27a4cd75403", func := "loop.example/g00589/laws.FnExactLinearOf", spec := "fnExactLinearOf", inPlace := ["internal/bytealg.abigen_runtime_cmpstring"], unfollowed := true, recurses := true, loops := true, apart := false }
def FnExactLinearOfSaid : Prop := fnExactLinearOfRow.holds Try.pinned (OpenSpec.ofChange fnExactLinearOfSpec)

/-- ITS FALSE NEIGHBOUR: 'it returns false'. Refute it at one input. -/
def fnExactLinearOfWrong : ChangeSpec := { name := "fnExactLinearOf", fn := fun _ => fun
  | [d] => { results := [.lit (.bool false)], args := [d] }
  | _ => none }
def FnExactLinearOfWrongFalsely : Prop := fnExactLinearOfRow.holds Try.pinned (OpenSpec.ofChange fnExactLinearOfWrong)

/-- 'laws.FnExactCompile': WHATEVER THE INPUT: true; the input reads as it did. -/
def fnExactCompileSpec : ChangeSpec := { name := "fnExactCompile", fn := fun _ => fun
  | [d] => { results := [.lit (.bool true)], args := [d] }
  | _ => none }
def fnExactCompileRow : OpenClaim := { program := "ytemlobcbepgbaaa", sum := "7e01661e4d3b82af10de4271b936e0dae68b4e8ac7ed6b092b73b27a4cd75403", func := "loop.example/g00589/laws.FnExactCompile", spec := "fnExactCompile", unfollowed := true, recurses := true, loops := true, apart := false }
def FnExactCompileSaid : Prop := fnExactCompileRow.holds Try.pinned (OpenSpec.ofChange fnExactCompileSpec)

/-- ITS FALSE NEIGHBOUR: 'it returns false'. Refute it at one input. -/
def fnExactCompileWrong : ChangeSpec := { name := "fnExactCompile", fn := fun _ => fun
  | [d] => { results := [.lit (.bool false)], args := [d] }
  | _ => none }
def FnExactCompileWrongFalsely : Prop := fnExactCompileRow.holds Try.pinned (OpenSpec.ofChange fnExactCompileWrong)

/-- 'laws.FnExactShapesOf': WHATEVER THE INPUT: true; the input reads as it did. -/
def fnExactShapesOfSpec : ChangeSpec := { name := "fnExactShapesOf", fn := fun _ => fun
  | [d] => { results := [.lit (.bool true)], args := [d] }
  | _ => none }
def fnExactShapesOfRow : OpenClaim := { program := "ytemlobcbepgbaaa", sum := "7e01661e4d3b82af10de4271b936e0dae68b4e8ac7ed6b092b73b27a4cd75403", func := "loop.example/g00589/laws.FnExactShapesOf", spec := "fnExactShapesOf", unfollowed := true, recurses := true, apart := false }
def FnExactShapesOfSaid : Prop := fnExactShapesOfRow.holds Try.pinned (OpenSpec.ofChange fnExactShapesOfSpec)

/-- ITS FALSE NEIGHBOUR: 'it returns false'. Refute it at one input. -/
def fnExactShapesOfWrong : ChangeSpec := { name := "fnExactShapesOf", fn := fun _ => fun
  | [d] => { results := [.lit (.bool false)], args := [d] }
  | _ => none }
def FnExactShapesOfWrongFalsely : Prop := fnExactShapesOfRow.holds Try.pinned (OpenSpec.ofChange fnExactShapesOfWrong)

/-- 'laws.FnExactVerifyCode': WHATEVER THE INPUT: true; the input reads as it did. -/
def fnExactVerifyCodeSpec : ChangeSpec := { name := "fnExactVerifyCode", fn := fun _ => fun
  | [d] => { results := [.lit (.bool true)], args := [d] }
  | _ => none }
def fnExactVerifyCodeRow : OpenClaim := { program := "ytemlobcbepgbaaa", sum := "7e01661e4d3b82af10de4271b936e0dae68b4e8ac7ed6b092b73b27a4cd75403", func := "loop.example/g00589/laws.FnExactVerifyCode", spec := "fnExactVerifyCode", unfollowed := true, recurses := true, apart := false }
def FnExactVerifyCodeSaid : Prop := fnExactVerifyCodeRow.holds Try.pinned (OpenSpec.ofChange fnExactVerifyCodeSpec)

/-- ITS FALSE NEIGHBOUR: 'it returns false'. Refute it at one input. -/
def fnExactVerifyCodeWrong : ChangeSpec := { name := "fnExactVerifyCode", fn := fun _ => fun
  | [d] => { results := [.lit (.bool false)], args := [d] }
  | _ => none }
def FnExactVerifyCodeWrongFalsely : Prop := fnExactVerifyCodeRow.holds Try.pinned (OpenSpec.ofChange fnExactVerifyCodeWrong)

/-- 'laws.FnExactMaxHeight': WHATEVER THE INPUT: true; the input reads as it did. -/
def fnExactMaxHeightSpec : ChangeSpec := { name := "fnExactMaxHeight", fn := fun _ => fun
  | [d] => { results := [.lit (.bool true)], args := [d] }
  | _ => none }
def fnExactMaxHeightRow : OpenClaim := { program := "ytemlobcbepgbaaa", sum := "7e01661e4d3b82af10de4271b936e0dae68b4e8ac7ed6b092b73b27a4cd75403", func := "loop.example/g00589/laws.FnExactMaxHeight", spec := "fnExactMaxHeight", unfollowed := true, recurses := true, apart := false }
def FnExactMaxHeightSaid : Prop := fnExactMaxHeightRow.holds Try.pinned (OpenSpec.ofChange fnExactMaxHeightSpec)

/-- ITS FALSE NEIGHBOUR: 'it returns false'. Refute it at one input. -/
def fnExactMaxHeightWrong : ChangeSpec := { name := "fnExactMaxHeight", fn := fun _ => fun
  | [d] => { results := [.lit (.bool false)], args := [d] }
  | _ => none }
def FnExactMaxHeightWrongFalsely : Prop := fnExactMaxHeightRow.holds Try.pinned (OpenSpec.ofChange fnExactMaxHeightWrong)

/-- 'laws.FnExactRunCode': WHATEVER THE INPUT: true; the input reads as it did. -/
def fnExactRunCodeSpec : ChangeSpec := { name := "fnExactRunCode", fn := fun _ => fun
  | [d1, d2] => { results := [.lit (.bool true)], args := [d1, d2] }
  | _ => none }
def fnExactRunCodeRow : OpenClaim := { program := "ytemlobcbepgbaaa", sum := "7e01661e4d3b82af10de4271b936e0dae68b4e8ac7ed6b092b73b27a4cd75403", func := "loop.example/g00589/laws.FnExactRunCode", spec := "fnExactRunCode", unfollowed := true, recurses := true, apart := false }
def FnExactRunCodeSaid : Prop := fnExactRunCodeRow.holds Try.pinned (OpenSpec.ofChange fnExactRunCodeSpec)

/-- ITS FALSE NEIGHBOUR: 'it returns false'. Refute it at one input. -/
def fnExactRunCodeWrong : ChangeSpec := { name := "fnExactRunCode", fn := fun _ => fun
  | [d1, d2] => { results := [.lit (.bool false)], args := [d1, d2] }
  | _ => none }
def FnExactRunCodeWrongFalsely : Prop := fnExactRunCodeRow.holds Try.pinned (OpenSpec.ofChange fnExactRunCodeWrong)

/-- 'laws.FnExactSumTerm': WHATEVER THE INPUT: true; the input reads as it did. -/
def fnExactSumTermSpec : ChangeSpec := { name := "fnExactSumTerm", fn := fun _ => fun
  | [d] => { results := [.lit (.bool true)], args := [d] }
  | _ => none }
def fnExactSumTermRow : OpenClaim := { program := "ytemlobcbepgbaaa", sum := "7e01661e4d3b82af10de4271b936e0dae68b4e8ac7ed6b092b73b27a4cd75403", func := "loop.example/g00589/laws.FnExactSumTerm", spec := "fnExactSumTerm", recurses := true, apart := false }
def FnExactSumTermSaid : Prop := fnExactSumTermRow.holds Try.pinned (OpenSpec.ofChange fnExactSumTermSpec)

/-- ITS FALSE NEIGHBOUR: 'it returns false'. Refute it at one input. -/
def fnExactSumTermWrong : ChangeSpec := { name := "fnExactSumTerm", fn := fun _ => fun
  | [d] => { results := [.lit (.bool false)], args := [d] }
  | _ => none }
def FnExactSumTermWrongFalsely : Prop := fnExactSumTermRow.holds Try.pinned (OpenSpec.ofChange fnExactSumTermWrong)

/-- 'laws.FnExactAddSums': WHATEVER THE INPUT: true; the input reads as it did. -/
def fnExactAddSumsSpec : ChangeSpec := { name := "fnExactAddSums", fn := fun _ => fun
  | [d1, d2] => { results := [.lit (.bool true)], args := [d1, d2] }
  | _ => none }
def fnExactAddSumsRow : OpenClaim := { program := "ytemlobcbepgbaaa", sum := "7e01661e4d3b82af10de4271b936e0dae68b4e8ac7ed6b092b73b27a4cd75403", func := "loop.example/g00589/laws.FnExactAddSums", spec := "fnExactAddSums", inPlace := ["internal/bytealg.abigen_runtime_cmpstring"], unfollowed := true, recurses := true, apart := false }
def FnExactAddSumsSaid : Prop := fnExactAddSumsRow.holds Try.pinned (OpenSpec.ofChange fnExactAddSumsSpec)

/-- ITS FALSE NEIGHBOUR: 'it returns false'. Refute it at one input. -/
def fnExactAddSumsWrong : ChangeSpec := { name := "fnExactAddSums", fn := fun _ => fun
  | [d1, d2] => { results := [.lit (.bool false)], args := [d1, d2] }
  | _ => none }
def FnExactAddSumsWrongFalsely : Prop := fnExactAddSumsRow.holds Try.pinned (OpenSpec.ofChange fnExactAddSumsWrong)

/-- 'laws.FnExactTraceText': WHATEVER THE INPUT: true; the input reads as it did. -/
def fnExactTraceTextSpec : ChangeSpec := { name := "fnExactTraceText", fn := fun _ => fun
  | [d] => { results := [.lit (.bool true)], args := [d] }
  | _ => none }
def fnExactTraceTextRow : OpenClaim := { program := "ytemlobcbepgbaaa", sum := "7e01661e4d3b82af10de4271b936e0dae68b4e8ac7ed6b092b73b27a4cd75403", func := "loop.example/g00589/laws.FnExactTraceText", spec := "fnExactTraceText", inPlace := ["internal/abi.NoEscape", "internal/bytealg.MakeNoZero"], apart := false }
def FnExactTraceTextSaid : Prop := fnExactTraceTextRow.holds Try.pinned (OpenSpec.ofChange fnExactTraceTextSpec)

/-- ITS FALSE NEIGHBOUR: 'it returns false'. Refute it at one input. -/
def fnExactTraceTextWrong : ChangeSpec := { name := "fnExactTraceText", fn := fun _ => fun
  | [d] => { results := [.lit (.bool false)], args := [d] }
  | _ => none }
def FnExactTraceTextWrongFalsely : Prop := fnExactTraceTextRow.holds Try.pinned (OpenSpec.ofChange fnExactTraceTextWrong)

/- THE SECOND FORM. 'bulk': how many values and letters a reading holds, each counted each time it is reached (what is shared counts as often as it is met; a slice's spare places count too). A statement '..UptoSaid' is the law's where the arguments, and the package variables that the reading takes, are together of bulk at most 1048576: NARROWER than '..Said'. Prove '..Said' where nothing that the law and all that it calls make is longer than what came in: it says more and counts as full. Else prove '..UptoSaid'. A law counts once. -/
mutual
def uptoBulk {H : Type} : DataW H → Nat
  | .lit (.string bytes) => bytes.length + 1
  | .lit _ => 1
  | .nil => 1
  | .ptr d => uptoBulk d + 1
  | .slice elems spare => uptoBulkAll elems + uptoBulkAll spare + 1
  | .agg parts => uptoBulkAll parts + 1
  | .iface _ d => uptoBulk d + 1
  | .map entries => uptoBulkEntries entries + 1
  | .held _ => 1
def uptoBulkAll {H : Type} : List (DataW H) → Nat
  | [] => 0
  | d :: r => uptoBulk d + uptoBulkAll r
def uptoBulkEntries {H : Type} : List (Lit × DataW H) → Nat
  | [] => 0
  | x :: r => uptoBulkEntry x + uptoBulkEntries r
def uptoBulkEntry {H : Type} : Lit × DataW H → Nat
  | (.string bytes, d) => bytes.length + uptoBulk d + 1
  | (_, d) => uptoBulk d + 1
 end
def uptoSmall : (H : Type) → List (DataW H) → Bool := fun _ ds => decide (uptoBulkAll ds ≤ 1048576)
def OpenSpec.upto (s : _root_.Go.ChangeSpec) : _root_.Go.OpenSpec := { _root_.Go.OpenSpec.ofChange s with cond := some uptoSmall }

/-- 'laws.FnExactLiftOf', WHERE WHAT IT READS IS OF BULK AT MOST 1048576: true; the input reads as it did. -/
def fnExactLiftOfUptoRow : OpenClaim := { program := "ytemlobcbepgbaaa", sum := "7e01661e4d3b82af10de4271b936e0dae68b4e8ac7ed6b092b73b27a4cd75403", func := "loop.example/g00589/laws.FnExactLiftOf", spec := "fnExactLiftOf", unfollowed := true, recurses := true, loops := true, apart := false, narrowed := true }
def FnExactLiftOfUptoSaid : Prop := fnExactLiftOfUptoRow.holds Try.pinned (OpenSpec.upto fnExactLiftOfSpec)

/-- 'laws.FnExactCodePart', WHERE WHAT IT READS IS OF BULK AT MOST 1048576: true; the input reads as it did. -/
def fnExactCodePartUptoRow : OpenClaim := { program := "ytemlobcbepgbaaa", sum := "7e01661e4d3b82af10de4271b936e0dae68b4e8ac7ed6b092b73b27a4cd75403", func := "loop.example/g00589/laws.FnExactCodePart", spec := "fnExactCodePart", unfollowed := true, recurses := true, loops := true, apart := false, narrowed := true }
def FnExactCodePartUptoSaid : Prop := fnExactCodePartUptoRow.holds Try.pinned (OpenSpec.upto fnExactCodePartSpec)

/-- 'laws.FnExactLinearOf', WHERE WHAT IT READS IS OF BULK AT MOST 1048576: true; the input reads as it did. -/
def fnExactLinearOfUptoRow : OpenClaim := { program := "ytemlobcbepgbaaa", sum := "7e01661e4d3b82af10de4271b936e0dae68b4e8ac7ed6b092b73b27a4cd75403", func := "loop.example/g00589/laws.FnExactLinearOf", spec := "fnExactLinearOf", inPlace := ["internal/bytealg.abigen_runtime_cmpstring"], unfollowed := true, recurses := true, loops := true, apart := false, narrowed := true }
def FnExactLinearOfUptoSaid : Prop := fnExactLinearOfUptoRow.holds Try.pinned (OpenSpec.upto fnExactLinearOfSpec)

/-- 'laws.FnExactCompile', WHERE WHAT IT READS IS OF BULK AT MOST 1048576: true; the input reads as it did. -/
def fnExactCompileUptoRow : OpenClaim := { program := "ytemlobcbepgbaaa", sum := "7e01661e4d3b82af10de4271b936e0dae68b4e8ac7ed6b092b73b27a4cd75403", func := "loop.example/g00589/laws.FnExactCompile", spec := "fnExactCompile", unfollowed := true, recurses := true, loops := true, apart := false, narrowed := true }
def FnExactCompileUptoSaid : Prop := fnExactCompileUptoRow.holds Try.pinned (OpenSpec.upto fnExactCompileSpec)

/-- 'laws.FnExactShapesOf', WHERE WHAT IT READS IS OF BULK AT MOST 1048576: true; the input reads as it did. -/
def fnExactShapesOfUptoRow : OpenClaim := { program := "ytemlobcbepgbaaa", sum := "7e01661e4d3b82af10de4271b936e0dae68b4e8ac7ed6b092b73b27a4cd75403", func := "loop.example/g00589/laws.FnExactShapesOf", spec := "fnExactShapesOf", unfollowed := true, recurses := true, apart := false, narrowed := true }
def FnExactShapesOfUptoSaid : Prop := fnExactShapesOfUptoRow.holds Try.pinned (OpenSpec.upto fnExactShapesOfSpec)

/-- 'laws.FnExactVerifyCode', WHERE WHAT IT READS IS OF BULK AT MOST 1048576: true; the input reads as it did. -/
def fnExactVerifyCodeUptoRow : OpenClaim := { program := "ytemlobcbepgbaaa", sum := "7e01661e4d3b82af10de4271b936e0dae68b4e8ac7ed6b092b73b27a4cd75403", func := "loop.example/g00589/laws.FnExactVerifyCode", spec := "fnExactVerifyCode", unfollowed := true, recurses := true, apart := false, narrowed := true }
def FnExactVerifyCodeUptoSaid : Prop := fnExactVerifyCodeUptoRow.holds Try.pinned (OpenSpec.upto fnExactVerifyCodeSpec)

/-- 'laws.FnExactMaxHeight', WHERE WHAT IT READS IS OF BULK AT MOST 1048576: true; the input reads as it did. -/
def fnExactMaxHeightUptoRow : OpenClaim := { program := "ytemlobcbepgbaaa", sum := "7e01661e4d3b82af10de4271b936e0dae68b4e8ac7ed6b092b73b27a4cd75403", func := "loop.example/g00589/laws.FnExactMaxHeight", spec := "fnExactMaxHeight", unfollowed := true, recurses := true, apart := false, narrowed := true }
def FnExactMaxHeightUptoSaid : Prop := fnExactMaxHeightUptoRow.holds Try.pinned (OpenSpec.upto fnExactMaxHeightSpec)

/-- 'laws.FnExactRunCode', WHERE WHAT IT READS IS OF BULK AT MOST 1048576: true; the input reads as it did. -/
def fnExactRunCodeUptoRow : OpenClaim := { program := "ytemlobcbepgbaaa", sum := "7e01661e4d3b82af10de4271b936e0dae68b4e8ac7ed6b092b73b27a4cd75403", func := "loop.example/g00589/laws.FnExactRunCode", spec := "fnExactRunCode", unfollowed := true, recurses := true, apart := false, narrowed := true }
def FnExactRunCodeUptoSaid : Prop := fnExactRunCodeUptoRow.holds Try.pinned (OpenSpec.upto fnExactRunCodeSpec)

/-- 'laws.FnExactSumTerm', WHERE WHAT IT READS IS OF BULK AT MOST 1048576: true; the input reads as it did. -/
def fnExactSumTermUptoRow : OpenClaim := { program := "ytemlobcbepgbaaa", sum := "7e01661e4d3b82af10de4271b936e0dae68b4e8ac7ed6b092b73b27a4cd75403", func := "loop.example/g00589/laws.FnExactSumTerm", spec := "fnExactSumTerm", recurses := true, apart := false, narrowed := true }
def FnExactSumTermUptoSaid : Prop := fnExactSumTermUptoRow.holds Try.pinned (OpenSpec.upto fnExactSumTermSpec)

/-- 'laws.FnExactAddSums', WHERE WHAT IT READS IS OF BULK AT MOST 1048576: true; the input reads as it did. -/
def fnExactAddSumsUptoRow : OpenClaim := { program := "ytemlobcbepgbaaa", sum := "7e01661e4d3b82af10de4271b936e0dae68b4e8ac7ed6b092b73b27a4cd75403", func := "loop.example/g00589/laws.FnExactAddSums", spec := "fnExactAddSums", inPlace := ["internal/bytealg.abigen_runtime_cmpstring"], unfollowed := true, recurses := true, apart := false, narrowed := true }
def FnExactAddSumsUptoSaid : Prop := fnExactAddSumsUptoRow.holds Try.pinned (OpenSpec.upto fnExactAddSumsSpec)

/-- 'laws.FnExactTraceText', WHERE WHAT IT READS IS OF BULK AT MOST 1048576: true; the input reads as it did. -/
def fnExactTraceTextUptoRow : OpenClaim := { program := "ytemlobcbepgbaaa", sum := "7e01661e4d3b82af10de4271b936e0dae68b4e8ac7ed6b092b73b27a4cd75403", func := "loop.example/g00589/laws.FnExactTraceText", spec := "fnExactTraceText", inPlace := ["internal/abi.NoEscape", "internal/bytealg.MakeNoZero"], apart := false, narrowed := true }
def FnExactTraceTextUptoSaid : Prop := fnExactTraceTextUptoRow.holds Try.pinned (OpenSpec.upto fnExactTraceTextSpec)

end Rows
end Go.Proofs.Ytemlobcbepgbaaa
