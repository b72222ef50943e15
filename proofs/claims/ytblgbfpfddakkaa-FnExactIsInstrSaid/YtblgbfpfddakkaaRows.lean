/-
  No cell of these rows narrows 'for every input' (looked for: loops, veiled, ifaces, maps, wideKeys, modest, calm, conditions, laid).
  DERIVED. THE GIVEN ROWS OF THIS SEAT. 7 by the template 'for every input the law returns true; each argument reads behind the call as it read before'; 0 by the template 'total and deterministic' (their statements: YtblgbfpfddakkaaTotals.lean).
  GIVEN WITH THE SEED: the statements are not yours to turn. If you find one false, say at which input.
  Laid BY PROGRAM, IN A SANDBOX (cutbox-rows.mjs): the forced cells as the released guide's own fill.sh prints them over the translation 7441c4a42f0e1745… (all of the seat's roots in one cut). By AI agents, Wed Nov 11 2026. No macro, syntax, notation, axiom, sorry.
-/
import Derived.Test.YtblgbfpfddakkaaChecked
import GoSem.Claim
import GoSem.ClaimJoined
import GoSem.ClaimMapViews
import Derived.JoinedTies
import Derived.KernelRfl
namespace Go.Proofs.Ytblgbfpfddakkaa
/- THE CELL 'sum', in the pinned program and in every row, IS THE sha256 OF THE DUMP (.gsa) THAT YtblgbfpfddakkaaProg.lean LOADS. Nothing in Lean hashes anything: it is a label: what it is worth is what the hold of that sum in a sandbox is worth. -/
noncomputable def Try.pinned : Pinned := { name := "ytblgbfpfddakkaa", sum := "7441c4a42f0e17450e49d8bffd6b176fcb2b38bccd31886f80e3303010fce026", checked := Try.checked }
namespace Rows
def none {H : Type} : Left H := { results := [], args := [] }

/-- 'laws.FnExactIsInstr': WHATEVER THE INPUT: true; the input reads as it did. -/
def fnExactIsInstrSpec : ChangeSpec := { name := "fnExactIsInstr", fn := fun _ => fun
  | [d] => { results := [.lit (.bool true)], args := [d] }
  | _ => none }
def fnExactIsInstrRow : OpenClaim := { program := "ytblgbfpfddakkaa", sum := "7441c4a42f0e17450e49d8bffd6b176fcb2b38bccd31886f80e3303010fce026", func := "loop.example/g00589/laws.FnExactIsInstr", spec := "fnExactIsInstr", apart := false }
def FnExactIsInstrSaid : Prop := fnExactIsInstrRow.holds Try.pinned (OpenSpec.ofChange fnExactIsInstrSpec)

/-- ITS FALSE NEIGHBOUR: 'it returns false'. Refute it at one input. -/
def fnExactIsInstrWrong : ChangeSpec := { name := "fnExactIsInstr", fn := fun _ => fun
  | [d] => { results := [.lit (.bool false)], args := [d] }
  | _ => none }
def FnExactIsInstrWrongFalsely : Prop := fnExactIsInstrRow.holds Try.pinned (OpenSpec.ofChange fnExactIsInstrWrong)

/-- 'laws.FnExactCountRule': WHATEVER THE INPUT: true; the input reads as it did. -/
def fnExactCountRuleSpec : ChangeSpec := { name := "fnExactCountRule", fn := fun _ => fun
  | [d1, d2] => { results := [.lit (.bool true)], args := [d1, d2] }
  | _ => none }
def fnExactCountRuleRow : OpenClaim := { program := "ytblgbfpfddakkaa", sum := "7441c4a42f0e17450e49d8bffd6b176fcb2b38bccd31886f80e3303010fce026", func := "loop.example/g00589/laws.FnExactCountRule", spec := "fnExactCountRule", apart := false }
def FnExactCountRuleSaid : Prop := fnExactCountRuleRow.holds Try.pinned (OpenSpec.ofChange fnExactCountRuleSpec)

/-- ITS FALSE NEIGHBOUR: 'it returns false'. Refute it at one input. -/
def fnExactCountRuleWrong : ChangeSpec := { name := "fnExactCountRule", fn := fun _ => fun
  | [d1, d2] => { results := [.lit (.bool false)], args := [d1, d2] }
  | _ => none }
def FnExactCountRuleWrongFalsely : Prop := fnExactCountRuleRow.holds Try.pinned (OpenSpec.ofChange fnExactCountRuleWrong)

/-- 'laws.FnExactHornerValue': WHATEVER THE INPUT: true; the input reads as it did. -/
def fnExactHornerValueSpec : ChangeSpec := { name := "fnExactHornerValue", fn := fun _ => fun
  | [d1, d2] => { results := [.lit (.bool true)], args := [d1, d2] }
  | _ => none }
def fnExactHornerValueRow : OpenClaim := { program := "ytblgbfpfddakkaa", sum := "7441c4a42f0e17450e49d8bffd6b176fcb2b38bccd31886f80e3303010fce026", func := "loop.example/g00589/laws.FnExactHornerValue", spec := "fnExactHornerValue", apart := false }
def FnExactHornerValueSaid : Prop := fnExactHornerValueRow.holds Try.pinned (OpenSpec.ofChange fnExactHornerValueSpec)

/-- ITS FALSE NEIGHBOUR: 'it returns false'. Refute it at one input. -/
def fnExactHornerValueWrong : ChangeSpec := { name := "fnExactHornerValue", fn := fun _ => fun
  | [d1, d2] => { results := [.lit (.bool false)], args := [d1, d2] }
  | _ => none }
def FnExactHornerValueWrongFalsely : Prop := fnExactHornerValueRow.holds Try.pinned (OpenSpec.ofChange fnExactHornerValueWrong)

/-- 'laws.FnExactDotValue': WHATEVER THE INPUT: true; the input reads as it did. -/
def fnExactDotValueSpec : ChangeSpec := { name := "fnExactDotValue", fn := fun _ => fun
  | [d1, d2] => { results := [.lit (.bool true)], args := [d1, d2] }
  | _ => none }
def fnExactDotValueRow : OpenClaim := { program := "ytblgbfpfddakkaa", sum := "7441c4a42f0e17450e49d8bffd6b176fcb2b38bccd31886f80e3303010fce026", func := "loop.example/g00589/laws.FnExactDotValue", spec := "fnExactDotValue", apart := false }
def FnExactDotValueSaid : Prop := fnExactDotValueRow.holds Try.pinned (OpenSpec.ofChange fnExactDotValueSpec)

/-- ITS FALSE NEIGHBOUR: 'it returns false'. Refute it at one input. -/
def fnExactDotValueWrong : ChangeSpec := { name := "fnExactDotValue", fn := fun _ => fun
  | [d1, d2] => { results := [.lit (.bool false)], args := [d1, d2] }
  | _ => none }
def FnExactDotValueWrongFalsely : Prop := fnExactDotValueRow.holds Try.pinned (OpenSpec.ofChange fnExactDotValueWrong)

/-- 'laws.FnExactTraceText': WHATEVER THE INPUT: true; the input reads as it did. -/
def fnExactTraceTextSpec : ChangeSpec := { name := "fnExactTraceText", fn := fun _ => fun
  | [d] => { results := [.lit (.bool true)], args := [d] }
  | _ => none }
def fnExactTraceTextRow : OpenClaim := { program := "ytblgbfpfddakkaa", sum := "7441c4a42f0e17450e49d8bffd6b176fcb2b38bccd31886f80e3303010fce026", func := "loop.example/g00589/laws.FnExactTraceText", spec := "fnExactTraceText", inPlace := ["internal/abi.NoEscape", "internal/bytealg.MakeNoZero"], apart := false }
def FnExactTraceTextSaid : Prop := fnExactTraceTextRow.holds Try.pinned (OpenSpec.ofChange fnExactTraceTextSpec)

/-- ITS FALSE NEIGHBOUR: 'it returns false'. Refute it at one input. -/
def fnExactTraceTextWrong : ChangeSpec := { name := "fnExactTraceText", fn := fun _ => fun
  | [d] => { results := [.lit (.bool false)], args := [d] }
  | _ => none }
def FnExactTraceTextWrongFalsely : Prop := fnExactTraceTextRow.holds Try.pinned (OpenSpec.ofChange fnExactTraceTextWrong)

/-- 'laws.FnExactEqualSum': WHATEVER THE INPUT: true; the input reads as it did. -/
def fnExactEqualSumSpec : ChangeSpec := { name := "fnExactEqualSum", fn := fun _ => fun
  | [d1, d2] => { results := [.lit (.bool true)], args := [d1, d2] }
  | _ => none }
def fnExactEqualSumRow : OpenClaim := { program := "ytblgbfpfddakkaa", sum := "7441c4a42f0e17450e49d8bffd6b176fcb2b38bccd31886f80e3303010fce026", func := "loop.example/g00589/laws.FnExactEqualSum", spec := "fnExactEqualSum", apart := false }
def FnExactEqualSumSaid : Prop := fnExactEqualSumRow.holds Try.pinned (OpenSpec.ofChange fnExactEqualSumSpec)

/-- ITS FALSE NEIGHBOUR: 'it returns false'. Refute it at one input. -/
def fnExactEqualSumWrong : ChangeSpec := { name := "fnExactEqualSum", fn := fun _ => fun
  | [d1, d2] => { results := [.lit (.bool false)], args := [d1, d2] }
  | _ => none }
def FnExactEqualSumWrongFalsely : Prop := fnExactEqualSumRow.holds Try.pinned (OpenSpec.ofChange fnExactEqualSumWrong)

/-- 'laws.FnExactIsSum': WHATEVER THE INPUT: true; the input reads as it did. -/
def fnExactIsSumSpec : ChangeSpec := { name := "fnExactIsSum", fn := fun _ => fun
  | [d] => { results := [.lit (.bool true)], args := [d] }
  | _ => none }
def fnExactIsSumRow : OpenClaim := { program := "ytblgbfpfddakkaa", sum := "7441c4a42f0e17450e49d8bffd6b176fcb2b38bccd31886f80e3303010fce026", func := "loop.example/g00589/laws.FnExactIsSum", spec := "fnExactIsSum", apart := false }
def FnExactIsSumSaid : Prop := fnExactIsSumRow.holds Try.pinned (OpenSpec.ofChange fnExactIsSumSpec)

/-- ITS FALSE NEIGHBOUR: 'it returns false'. Refute it at one input. -/
def fnExactIsSumWrong : ChangeSpec := { name := "fnExactIsSum", fn := fun _ => fun
  | [d] => { results := [.lit (.bool false)], args := [d] }
  | _ => none }
def FnExactIsSumWrongFalsely : Prop := fnExactIsSumRow.holds Try.pinned (OpenSpec.ofChange fnExactIsSumWrong)

/- THE SECOND FORM. 'bulk': how many values and letters a reading holds, each counted each time it is reached (what is shared counts as often as it is met; a slice's spare places count too). A statement '..UptoSaid' is the law's where the arguments, and the package variables that the reading takes, are together of bulk at most 1048576: NARROWER than '..Said'. Prove '..Said' where nothing that the law and all that it calls make is longer than what came in: it says more and counts as full. Else prove '..UptoSaid'. A law counts once. -/
mutual
def uptoBulk {H : Type} : DataW H → Nat
  | .lit (.string bytes) => bytes.length + 1
  | .lit _ => 1
  | .nil => 1
  | .ptr d => uptoBulk d + 1
  | .slice elems spare => uptoBulkAll elems + uptoBulkAll spare + 1
  | .agg parts => uptoBulkAll parts + 1
  | .iface _ d => uptoBulk d + 1
  | .map entries => uptoBulkEntries entries + 1
  | .held _ => 1
def uptoBulkAll {H : Type} : List (DataW H) → Nat
  | [] => 0
  | d :: r => uptoBulk d + uptoBulkAll r
def uptoBulkEntries {H : Type} : List (Lit × DataW H) → Nat
  | [] => 0
  | x :: r => uptoBulkEntry x + uptoBulkEntries r
def uptoBulkEntry {H : Type} : Lit × DataW H → Nat
  | (.string bytes, d) => bytes.length + uptoBulk d + 1
  | (_, d) => uptoBulk d + 1
 end
def uptoSmall : (H : Type) → List (DataW H) → Bool := fun _ ds => decide (uptoBulkAll ds ≤ 1048576)
def OpenSpec.upto (s : _root_.Go.ChangeSpec) : _root_.Go.OpenSpec := { _root_.Go.OpenSpec.ofChange s with cond := some uptoSmall }

/-- 'laws.FnExactIsInstr', WHERE WHAT IT READS IS OF BULK AT MOST 1048576: true; the input reads as it did. -/
def fnExactIsInstrUptoRow : OpenClaim := { program := "ytblgbfpfddakkaa", sum := "7441c4a42f0e17450e49d8bffd6b176fcb2b38bccd31886f80e3303010fce026", func := "loop.example/g00589/laws.FnExactIsInstr", spec := "fnExactIsInstr", apart := false, narrowed := true }
def FnExactIsInstrUptoSaid : Prop := fnExactIsInstrUptoRow.holds Try.pinned (OpenSpec.upto fnExactIsInstrSpec)

/-- 'laws.FnExactCountRule', WHERE WHAT IT READS IS OF BULK AT MOST 1048576: true; the input reads as it did. -/
def fnExactCountRuleUptoRow : OpenClaim := { program := "ytblgbfpfddakkaa", sum := "7441c4a42f0e17450e49d8bffd6b176fcb2b38bccd31886f80e3303010fce026", func := "loop.example/g00589/laws.FnExactCountRule", spec := "fnExactCountRule", apart := false, narrowed := true }
def FnExactCountRuleUptoSaid : Prop := fnExactCountRuleUptoRow.holds Try.pinned (OpenSpec.upto fnExactCountRuleSpec)

/-- 'laws.FnExactHornerValue', WHERE WHAT IT READS IS OF BULK AT MOST 1048576: true; the input reads as it did. -/
def fnExactHornerValueUptoRow : OpenClaim := { program := "ytblgbfpfddakkaa", sum := "7441c4a42f0e17450e49d8bffd6b176fcb2b38bccd31886f80e3303010fce026", func := "loop.example/g00589/laws.FnExactHornerValue", spec := "fnExactHornerValue", apart := false, narrowed := true }
def FnExactHornerValueUptoSaid : Prop := fnExactHornerValueUptoRow.holds Try.pinned (OpenSpec.upto fnExactHornerValueSpec)

/-- 'laws.FnExactDotValue', WHERE WHAT IT READS IS OF BULK AT MOST 1048576: true; the input reads as it did. -/
def fnExactDotValueUptoRow : OpenClaim := { program := "ytblgbfpfddakkaa", sum := "7441c4a42f0e17450e49d8bffd6b176fcb2b38bccd31886f80e3303010fce026", func := "loop.example/g00589/laws.FnExactDotValue", spec := "fnExactDotValue", apart := false, narrowed := true }
def FnExactDotValueUptoSaid : Prop := fnExactDotValueUptoRow.holds Try.pinned (OpenSpec.upto fnExactDotValueSpec)

/-- 'laws.FnExactTraceText', WHERE WHAT IT READS IS OF BULK AT MOST 1048576: true; the input reads as it did. -/
def fnExactTraceTextUptoRow : OpenClaim := { program := "ytblgbfpfddakkaa", sum := "7441c4a42f0e17450e49d8bffd6b176fcb2b38bccd31886f80e3303010fce026", func := "loop.example/g00589/laws.FnExactTraceText", spec := "fnExactTraceText", inPlace := ["internal/abi.NoEscape", "internal/bytealg.MakeNoZero"], apart := false, narrowed := true }
def FnExactTraceTextUptoSaid : Prop := fnExactTraceTextUptoRow.holds Try.pinned (OpenSpec.upto fnExactTraceTextSpec)

/-- 'laws.FnExactEqualSum', WHERE WHAT IT READS IS OF BULK AT MOST 1048576: true; the input reads as it did. -/
def fnExactEqualSumUptoRow : OpenClaim := { program := "ytblgbfpfddakkaa", sum := "7441c4a42f0e17450e49d8bffd6b176fcb2b38bccd31886f80e3303010fce026", func := "loop.example/g00589/laws.FnExactEqualSum", spec := "fnExactEqualSum", apart := false, narrowed := true }
def FnExactEqualSumUptoSaid : Prop := fnExactEqualSumUptoRow.holds Try.pinned (OpenSpec.upto fnExactEqualSumSpec)

/-- 'laws.FnExactIsSum', WHERE WHAT IT READS IS OF BULK AT MOST 1048576: true; the input reads as it did. -/
def fnExactIsSumUptoRow : OpenClaim := { program := "ytblgbfpfddakkaa", sum := "7441c4a42f0e17450e49d8bffd6b176fcb2b38bccd31886f80e3303010fce026", func := "loop.example/g00589/laws.FnExactIsSum", spec := "fnExactIsSum", apart := false, narrowed := true }
def FnExactIsSumUptoSaid : Prop := fnExactIsSumUptoRow.holds Try.pinned (OpenSpec.upto fnExactIsSumSpec)

end Rows
end Go.Proofs.Ytblgbfpfddakkaa
