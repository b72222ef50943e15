/-
  NARROWER THAN 'FOR EVERY INPUT', by the rows' own cells (each row's printed sentence says how): FnExactLinearOf: loops · FnExactEqualCache: loops · FnExactCodePart: loops.
  DERIVED. THE GIVEN ROWS OF THIS SEAT. 11 by the template 'for every input the law returns true; each argument reads behind the call as it read before'; 0 by the template 'total and deterministic' (their statements: YtaeeipojnfooeaaTotals.lean).
  GIVEN WITH THE SEED: the statements are not yours to turn. If you find one false, say at which input.
  Laid BY PROGRAM, IN A SANDBOX (cutbox-rows.mjs): the forced cells as the released guide's own fill.sh prints them over the translation 2ca1b86668b922c2… (all of the seat's roots in one cut). By AI agents, Wed Nov 11 2026. No macro, syntax, notation, axiom, sorry.
-/
import Derived.Test.YtaeeipojnfooeaaChecked
import GoSem.Claim
import GoSem.ClaimJoined
import GoSem.ClaimMapViews
import Derived.JoinedTies
import Derived.KernelRfl
namespace Go.Proofs.Ytaeeipojnfooeaa
/- THE CELL 'sum', in the pinned program and in every row, IS THE sha256 OF THE DUMP (.gsa) THAT YtaeeipojnfooeaaProg.lean LOADS. Nothing in Lean hashes anything: it is a label: what it is worth is what the hold of that sum in a sandbox is worth. -/
noncomputable def Try.pinned : Pinned := { name := "ytaeeipojnfooeaa", sum := "2ca1b86668b922c285df3853400c898f2846d29312a6928da36ef4787536bbdf", checked := Try.checked }
namespace Rows
def none {H : Type} : Left H := { results := [], args := [] }

/-- 'laws.FnExactEqualSum': WHATEVER THE INPUT: true; the input reads as it did. -/
def fnExactEqualSumSpec : ChangeSpec := { name := "fnExactEqualSum", fn := fun _ => fun
  | [d1, d2] => { results := [.lit (.bool true)], args := [d1, d2] }
  | _ => none }
def fnExactEqualSumRow : OpenClaim := { program := "ytaeeipojnfooeaa", sum := "2ca1b86668b922c285df3853400c898f2846d29312a6928da36ef4787536bbdf", func := "loop.example/g00589/laws.FnExactEqualSum", spec := "fnExactEqualSum", apart := false }
def FnExactEqualSumSaid : Prop := fnExactEqualSumRow.holds Try.pinned (OpenSpec.ofChange fnExactEqualSumSpec)

/-- ITS FALSE NEIGHBOUR: 'it returns false'. Refute it at one input. -/
def fnExactEqualSumWrong : ChangeSpec := { name := "fnExactEqualSum", fn := fun _ => fun
  | [d1, d2] => { results := [.lit (.bool false)], args := [d1, d2] }
  | _ => none }
def FnExactEqualSumWrongFalsely : Prop := fnExactEqualSumRow.holds Try.pinned (OpenSpec.ofChange fnExactEqualSumWrong)

/-- 'laws.FnExactTraceText': WHATEVER THE INPUT: true; the input reads as it did. -/
def fnExactTraceTextSpec : ChangeSpec := { name := "fnExactTraceText", fn := fun _ => fun
  | [d] => { results := [.lit (.bool true)], args := [d] }
  | _ => none }
def fnExactTraceTextRow : OpenClaim := { program := "ytaeeipojnfooeaa", sum := "2ca1b86668b922c285df3853400c898f2846d29312a6928da36ef4787536bbdf", func := "loop.example/g00589/laws.FnExactTraceText", spec := "fnExactTraceText", inPlace := ["internal/abi.NoEscape", "internal/bytealg.MakeNoZero"], apart := false }
def FnExactTraceTextSaid : Prop := fnExactTraceTextRow.holds Try.pinned (OpenSpec.ofChange fnExactTraceTextSpec)

/-- ITS FALSE NEIGHBOUR: 'it returns false'. Refute it at one input. -/
def fnExactTraceTextWrong : ChangeSpec := { name := "fnExactTraceText", fn := fun _ => fun
  | [d] => { results := [.lit (.bool false)], args := [d] }
  | _ => none }
def FnExactTraceTextWrongFalsely : Prop := fnExactTraceTextRow.holds Try.pinned (OpenSpec.ofChange fnExactTraceTextWrong)

/-- 'laws.FnExactIsSum': WHATEVER THE INPUT: true; the input reads as it did. -/
def fnExactIsSumSpec : ChangeSpec := { name := "fnExactIsSum", fn := fun _ => fun
  | [d] => { results := [.lit (.bool true)], args := [d] }
  | _ => none }
def fnExactIsSumRow : OpenClaim := { program := "ytaeeipojnfooeaa", sum := "2ca1b86668b922c285df3853400c898f2846d29312a6928da36ef4787536bbdf", func := "loop.example/g00589/laws.FnExactIsSum", spec := "fnExactIsSum", apart := false }
def FnExactIsSumSaid : Prop := fnExactIsSumRow.holds Try.pinned (OpenSpec.ofChange fnExactIsSumSpec)

/-- ITS FALSE NEIGHBOUR: 'it returns false'. Refute it at one input. -/
def fnExactIsSumWrong : ChangeSpec := { name := "fnExactIsSum", fn := fun _ => fun
  | [d] => { results := [.lit (.bool false)], args := [d] }
  | _ => none }
def FnExactIsSumWrongFalsely : Prop := fnExactIsSumRow.holds Try.pinned (OpenSpec.ofChange fnExactIsSumWrong)

/-- 'laws.FnExactScaleSum': WHATEVER THE INPUT: true; the input reads as it did. -/
def fnExactScaleSumSpec : ChangeSpec := { name := "fnExactScaleSum", fn := fun _ => fun
  | [d1, d2] => { results := [.lit (.bool true)], args := [d1, d2] }
  | _ => none }
def fnExactScaleSumRow : OpenClaim := { program := "ytaeeipojnfooeaa", sum := "2ca1b86668b922c285df3853400c898f2846d29312a6928da36ef4787536bbdf", func := "loop.example/g00589/laws.FnExactScaleSum", spec := "fnExactScaleSum", apart := false }
def FnExactScaleSumSaid : Prop := fnExactScaleSumRow.holds Try.pinned (OpenSpec.ofChange fnExactScaleSumSpec)

/-- ITS FALSE NEIGHBOUR: 'it returns false'. Refute it at one input. -/
def fnExactScaleSumWrong : ChangeSpec := { name := "fnExactScaleSum", fn := fun _ => fun
  | [d1, d2] => { results := [.lit (.bool false)], args := [d1, d2] }
  | _ => none }
def FnExactScaleSumWrongFalsely : Prop := fnExactScaleSumRow.holds Try.pinned (OpenSpec.ofChange fnExactScaleSumWrong)

/-- 'laws.FnExactEvalSum': WHATEVER THE INPUT: true; the input reads as it did. -/
def fnExactEvalSumSpec : ChangeSpec := { name := "fnExactEvalSum", fn := fun _ => fun
  | [d1, d2, d3] => { results := [.lit (.bool true)], args := [d1, d2, d3] }
  | _ => none }
def fnExactEvalSumRow : OpenClaim := { program := "ytaeeipojnfooeaa", sum := "2ca1b86668b922c285df3853400c898f2846d29312a6928da36ef4787536bbdf", func := "loop.example/g00589/laws.FnExactEvalSum", spec := "fnExactEvalSum", unfollowed := true, recurses := true, apart := false }
def FnExactEvalSumSaid : Prop := fnExactEvalSumRow.holds Try.pinned (OpenSpec.ofChange fnExactEvalSumSpec)

/-- ITS FALSE NEIGHBOUR: 'it returns false'. Refute it at one input. -/
def fnExactEvalSumWrong : ChangeSpec := { name := "fnExactEvalSum", fn := fun _ => fun
  | [d1, d2, d3] => { results := [.lit (.bool false)], args := [d1, d2, d3] }
  | _ => none }
def FnExactEvalSumWrongFalsely : Prop := fnExactEvalSumRow.holds Try.pinned (OpenSpec.ofChange fnExactEvalSumWrong)

/-- 'laws.FnExactAddSums': WHATEVER THE INPUT: true; the input reads as it did. -/
def fnExactAddSumsSpec : ChangeSpec := { name := "fnExactAddSums", fn := fun _ => fun
  | [d1, d2] => { results := [.lit (.bool true)], args := [d1, d2] }
  | _ => none }
def fnExactAddSumsRow : OpenClaim := { program := "ytaeeipojnfooeaa", sum := "2ca1b86668b922c285df3853400c898f2846d29312a6928da36ef4787536bbdf", func := "loop.example/g00589/laws.FnExactAddSums", spec := "fnExactAddSums", inPlace := ["internal/bytealg.abigen_runtime_cmpstring"], unfollowed := true, recurses := true, apart := false }
def FnExactAddSumsSaid : Prop := fnExactAddSumsRow.holds Try.pinned (OpenSpec.ofChange fnExactAddSumsSpec)

/-- ITS FALSE NEIGHBOUR: 'it returns false'. Refute it at one input. -/
def fnExactAddSumsWrong : ChangeSpec := { name := "fnExactAddSums", fn := fun _ => fun
  | [d1, d2] => { results := [.lit (.bool false)], args := [d1, d2] }
  | _ => none }
def FnExactAddSumsWrongFalsely : Prop := fnExactAddSumsRow.holds Try.pinned (OpenSpec.ofChange fnExactAddSumsWrong)

/-- 'laws.FnExactSumTerm': WHATEVER THE INPUT: true; the input reads as it did. -/
def fnExactSumTermSpec : ChangeSpec := { name := "fnExactSumTerm", fn := fun _ => fun
  | [d] => { results := [.lit (.bool true)], args := [d] }
  | _ => none }
def fnExactSumTermRow : OpenClaim := { program := "ytaeeipojnfooeaa", sum := "2ca1b86668b922c285df3853400c898f2846d29312a6928da36ef4787536bbdf", func := "loop.example/g00589/laws.FnExactSumTerm", spec := "fnExactSumTerm", recurses := true, apart := false }
def FnExactSumTermSaid : Prop := fnExactSumTermRow.holds Try.pinned (OpenSpec.ofChange fnExactSumTermSpec)

/-- ITS FALSE NEIGHBOUR: 'it returns false'. Refute it at one input. -/
def fnExactSumTermWrong : ChangeSpec := { name := "fnExactSumTerm", fn := fun _ => fun
  | [d] => { results := [.lit (.bool false)], args := [d] }
  | _ => none }
def FnExactSumTermWrongFalsely : Prop := fnExactSumTermRow.holds Try.pinned (OpenSpec.ofChange fnExactSumTermWrong)

/-- 'laws.FnExactLinearOf': WHATEVER THE INPUT: true; the input reads as it did. -/
def fnExactLinearOfSpec : ChangeSpec := { name := "fnExactLinearOf", fn := fun _ => fun
  | [d] => { results := [.lit (.bool true)], args := [d] }
  | _ => none }
def fnExactLinearOfRow : OpenClaim := { program := "ytaeeipojnfooeaa", sum := "2ca1b86668b922c285df3853400c898f2846d29312a6928da36ef4787536bbdf", func := "loop.example/g00589/laws.FnExactLinearOf", spec := "fnExactLinearOf", inPlace := ["internal/bytealg.abigen_runtime_cmpstring"], unfollowed := true, recurses := true, loops := true, apart := false }
def FnExactLinearOfSaid : Prop := fnExactLinearOfRow.holds Try.pinned (OpenSpec.ofChange fnExactLinearOfSpec)

/-- ITS FALSE NEIGHBOUR: 'it returns false'. Refute it at one input. -/
def fnExactLinearOfWrong : ChangeSpec := { name := "fnExactLinearOf", fn := fun _ => fun
  | [d] => { results := [.lit (.bool false)], args := [d] }
  | _ => none }
def FnExactLinearOfWrongFalsely : Prop := fnExactLinearOfRow.holds Try.pinned (OpenSpec.ofChange fnExactLinearOfWrong)

/-- 'laws.FnExactHornerTerm': WHATEVER THE INPUT: true; the input reads as it did. -/
def fnExactHornerTermSpec : ChangeSpec := { name := "fnExactHornerTerm", fn := fun _ => fun
  | [d] => { results := [.lit (.bool true)], args := [d] }
  | _ => none }
def fnExactHornerTermRow : OpenClaim := { program := "ytaeeipojnfooeaa", sum := "2ca1b86668b922c285df3853400c898f2846d29312a6928da36ef4787536bbdf", func := "loop.example/g00589/laws.FnExactHornerTerm", spec := "fnExactHornerTerm", recurses := true, apart := false }
def FnExactHornerTermSaid : Prop := fnExactHornerTermRow.holds Try.pinned (OpenSpec.ofChange fnExactHornerTermSpec)

/-- ITS FALSE NEIGHBOUR: 'it returns false'. Refute it at one input. -/
def fnExactHornerTermWrong : ChangeSpec := { name := "fnExactHornerTerm", fn := fun _ => fun
  | [d] => { results := [.lit (.bool false)], args := [d] }
  | _ => none }
def FnExactHornerTermWrongFalsely : Prop := fnExactHornerTermRow.holds Try.pinned (OpenSpec.ofChange fnExactHornerTermWrong)

/-- 'laws.FnExactEqualCache': WHATEVER THE INPUT: true; the input reads as it did. -/
def fnExactEqualCacheSpec : ChangeSpec := { name := "fnExactEqualCache", fn := fun _ => fun
  | [d1, d2] => { results := [.lit (.bool true)], args := [d1, d2] }
  | _ => none }
def fnExactEqualCacheRow : OpenClaim := { program := "ytaeeipojnfooeaa", sum := "2ca1b86668b922c285df3853400c898f2846d29312a6928da36ef4787536bbdf", func := "loop.example/g00589/laws.FnExactEqualCache", spec := "fnExactEqualCache", unfollowed := true, recurses := true, loops := true, apart := false }
def FnExactEqualCacheSaid : Prop := fnExactEqualCacheRow.holds Try.pinned (OpenSpec.ofChange fnExactEqualCacheSpec)

/-- ITS FALSE NEIGHBOUR: 'it returns false'. Refute it at one input. -/
def fnExactEqualCacheWrong : ChangeSpec := { name := "fnExactEqualCache", fn := fun _ => fun
  | [d1, d2] => { results := [.lit (.bool false)], args := [d1, d2] }
  | _ => none }
def FnExactEqualCacheWrongFalsely : Prop := fnExactEqualCacheRow.holds Try.pinned (OpenSpec.ofChange fnExactEqualCacheWrong)

/-- 'laws.FnExactCodePart': WHATEVER THE INPUT: true; the input reads as it did. -/
def fnExactCodePartSpec : ChangeSpec := { name := "fnExactCodePart", fn := fun _ => fun
  | [d] => { results := [.lit (.bool true)], args := [d] }
  | _ => none }
def fnExactCodePartRow : OpenClaim := { program := "ytaeeipojnfooeaa", sum := "2ca1b86668b922c285df3853400c898f2846d29312a6928da36ef4787536bbdf", func := "loop.example/g00589/laws.FnExactCodePart", spec := "fnExactCodePart", unfollowed := true, recurses := true, loops := true, apart := false }
def FnExactCodePartSaid : Prop := fnExactCodePartRow.holds Try.pinned (OpenSpec.ofChange fnExactCodePartSpec)

/-- ITS FALSE NEIGHBOUR: 'it returns false'. Refute it at one input. -/
def fnExactCodePartWrong : ChangeSpec := { name := "fnExactCodePart", fn := fun _ => fun
  | [d] => { results := [.lit (.bool false)], args := [d] }
  | _ => none }
def FnExactCodePartWrongFalsely : Prop := fnExactCodePartRow.holds Try.pinned (OpenSpec.ofChange fnExactCodePartWrong)

/- THE SECOND FORM. 'bulk': how many values and letters a reading holds, each counted each time it is reached (what is shared counts as often as it is met; a slice's spare places count too). A statement '..UptoSaid' is the law's where the arguments, and the package variables that the reading takes, are together of bulk at most 1048576: NARROWER than '..Said'. Prove '..Said' where nothing that the law and all that it calls make is longer than what came in: it says more and counts as full. Else prove '..UptoSaid'. A law counts once. -/
mutual
def uptoBulk {H : Type} : DataW H → Nat
  | .lit (.string bytes) => bytes.length + 1
  | .lit _ => 1
  | .nil => 1
  | .ptr d => uptoBulk d + 1
  | .slice elems spare => uptoBulkAll elems + uptoBulkAll spare + 1
  | .agg parts => uptoBulkAll parts + 1
  | .iface _ d => uptoBulk d + 1
  | .map entries => uptoBulkEntries entries + 1
  | .held _ => 1
def uptoBulkAll {H : Type} : List (DataW H) → Nat
  | [] => 0
  | d :: r => uptoBulk d + uptoBulkAll r
def uptoBulkEntries {H : Type} : List (Lit × DataW H) → Nat
  | [] => 0
  | x :: r => uptoBulkEntry x + uptoBulkEntries r
def uptoBulkEntry {H : Type} : Lit × DataW H → Nat
  | (.string bytes, d) => bytes.length + uptoBulk d + 1
  | (_, d) => uptoBulk d + 1
 end
def uptoSmall : (H : Type) → List (DataW H) → Bool := fun _ ds => decide (uptoBulkAll ds ≤ 1048576)
def OpenSpec.upto (s : _root_.Go.ChangeSpec) : _root_.Go.OpenSpec := { _root_.Go.OpenSpec.ofChange s with cond := some uptoSmall }

/-- 'laws.FnExactEqualSum', WHERE WHAT IT READS IS OF BULK AT MOST 1048576: true; the input reads as it did. -/
def fnExactEqualSumUptoRow : OpenClaim := { program := "ytaeeipojnfooeaa", sum := "2ca1b86668b922c285df3853400c898f2846d29312a6928da36ef4787536bbdf", func := "loop.example/g00589/laws.FnExactEqualSum", spec := "fnExactEqualSum", apart := false, narrowed := true }
def FnExactEqualSumUptoSaid : Prop := fnExactEqualSumUptoRow.holds Try.pinned (OpenSpec.upto fnExactEqualSumSpec)

/-- 'laws.FnExactTraceText', WHERE WHAT IT READS IS OF BULK AT MOST 1048576: true; the input reads as it did. -/
def fnExactTraceTextUptoRow : OpenClaim := { program := "ytaeeipojnfooeaa", sum := "2ca1b86668b922c285df3853400c898f2846d29312a6928da36ef4787536bbdf", func := "loop.example/g00589/laws.FnExactTraceText", spec := "fnExactTraceText", inPlace := ["internal/abi.NoEscape", "internal/bytealg.MakeNoZero"], apart := false, narrowed := true }
def FnExactTraceTextUptoSaid : Prop := fnExactTraceTextUptoRow.holds Try.pinned (OpenSpec.upto fnExactTraceTextSpec)

/-- 'laws.FnExactIsSum', WHERE WHAT IT READS IS OF BULK AT MOST 1048576: true; the input reads as it did. -/
def fnExactIsSumUptoRow : OpenClaim := { program := "ytaeeipojnfooeaa", sum := "2ca1b86668b922c285df3853400c898f2846d29312a6928da36ef4787536bbdf", func := "loop.example/g00589/laws.FnExactIsSum", spec := "fnExactIsSum", apart := false, narrowed := true }
def FnExactIsSumUptoSaid : Prop := fnExactIsSumUptoRow.holds Try.pinned (OpenSpec.upto fnExactIsSumSpec)

/-- 'laws.FnExactScaleSum', WHERE WHAT IT READS IS OF BULK AT MOST 1048576: true; the input reads as it did. -/
def fnExactScaleSumUptoRow : OpenClaim := { program := "ytaeeipojnfooeaa", sum := "2ca1b86668b922c285df3853400c898f2846d29312a6928da36ef4787536bbdf", func := "loop.example/g00589/laws.FnExactScaleSum", spec := "fnExactScaleSum", apart := false, narrowed := true }
def FnExactScaleSumUptoSaid : Prop := fnExactScaleSumUptoRow.holds Try.pinned (OpenSpec.upto fnExactScaleSumSpec)

/-- 'laws.FnExactEvalSum', WHERE WHAT IT READS IS OF BULK AT MOST 1048576: true; the input reads as it did. -/
def fnExactEvalSumUptoRow : OpenClaim := { program := "ytaeeipojnfooeaa", sum := "2ca1b86668b922c285df3853400c898f2846d29312a6928da36ef4787536bbdf", func := "loop.example/g00589/laws.FnExactEvalSum", spec := "fnExactEvalSum", unfollowed := true, recurses := true, apart := false, narrowed := true }
def FnExactEvalSumUptoSaid : Prop := fnExactEvalSumUptoRow.holds Try.pinned (OpenSpec.upto fnExactEvalSumSpec)

/-- 'laws.FnExactAddSums', WHERE WHAT IT READS IS OF BULK AT MOST 1048576: true; the input reads as it did. -/
def fnExactAddSumsUptoRow : OpenClaim := { program := "ytaeeipojnfooeaa", sum := "2ca1b86668b922c285df3853400c898f2846d29312a6928da36ef4787536bbdf", func := "loop.example/g00589/laws.FnExactAddSums", spec := "fnExactAddSums", inPlace := ["internal/bytealg.abigen_runtime_cmpstring"], unfollowed := true, recurses := true, apart := false, narrowed := true }
def FnExactAddSumsUptoSaid : Prop := fnExactAddSumsUptoRow.holds Try.pinned (OpenSpec.upto fnExactAddSumsSpec)

/-- 'laws.FnExactSumTerm', WHERE WHAT IT READS IS OF BULK AT MOST 1048576: true; the input reads as it did. -/
def fnExactSumTermUptoRow : OpenClaim := { program := "ytaeeipojnfooeaa", sum := "2ca1b86668b922c285df3853400c898f2846d29312a6928da36ef4787536bbdf", func := "loop.example/g00589/laws.FnExactSumTerm", spec := "fnExactSumTerm", recurses := true, apart := false, narrowed := true }
def FnExactSumTermUptoSaid : Prop := fnExactSumTermUptoRow.holds Try.pinned (OpenSpec.upto fnExactSumTermSpec)

/-- 'laws.FnExactLinearOf', WHERE WHAT IT READS IS OF BULK AT MOST 1048576: true; the input reads as it did. -/
def fnExactLinearOfUptoRow : OpenClaim := { program := "ytaeeipojnfooeaa", sum := "2ca1b86668b922c285df3853400c898f2846d29312a6928da36ef4787536bbdf", func := "loop.example/g00589/laws.FnExactLinearOf", spec := "fnExactLinearOf", inPlace := ["internal/bytealg.abigen_runtime_cmpstring"], unfollowed := true, recurses := true, loops := true, apart := false, narrowed := true }
def FnExactLinearOfUptoSaid : Prop := fnExactLinearOfUptoRow.holds Try.pinned (OpenSpec.upto fnExactLinearOfSpec)

/-- 'laws.FnExactHornerTerm', WHERE WHAT IT READS IS OF BULK AT MOST 1048576: true; the input reads as it did. -/
def fnExactHornerTermUptoRow : OpenClaim := { program := "ytaeeipojnfooeaa", sum := "2ca1b86668b922c285df3853400c898f2846d29312a6928da36ef4787536bbdf", func := "loop.example/g00589/laws.FnExactHornerTerm", spec := "fnExactHornerTerm", recurses := true, apart := false, narrowed := true }
def FnExactHornerTermUptoSaid : Prop := fnExactHornerTermUptoRow.holds Try.pinned (OpenSpec.upto fnExactHornerTermSpec)

/-- 'laws.FnExactEqualCache', WHERE WHAT IT READS IS OF BULK AT MOST 1048576: true; the input reads as it did. -/
def fnExactEqualCacheUptoRow : OpenClaim := { program := "ytaeeipojnfooeaa", sum := "2ca1b86668b922c285df3853400c898f2846d29312a6928da36ef4787536bbdf", func := "loop.example/g00589/laws.FnExactEqualCache", spec := "fnExactEqualCache", unfollowed := true, recurses := true, loops := true, apart := false, narrowed := true }
def FnExactEqualCacheUptoSaid : Prop := fnExactEqualCacheUptoRow.holds Try.pinned (OpenSpec.upto fnExactEqualCacheSpec)

/-- 'laws.FnExactCodePart', WHERE WHAT IT READS IS OF BULK AT MOST 1048576: true; the input reads as it did. -/
def fnExactCodePartUptoRow : OpenClaim := { program := "ytaeeipojnfooeaa", sum := "2ca1b86668b922c285df3853400c898f2846d29312a6928da36ef4787536bbdf", func := "loop.example/g00589/laws.FnExactCodePart", spec := "fnExactCodePart", unfollowed := true, recurses := true, loops := true, apart := false, narrowed := true }
def FnExactCodePartUptoSaid : Prop := fnExactCodePartUptoRow.holds Try.pinned (OpenSpec.upto fnExactCodePartSpec)

end Rows
end Go.Proofs.Ytaeeipojnfooeaa
