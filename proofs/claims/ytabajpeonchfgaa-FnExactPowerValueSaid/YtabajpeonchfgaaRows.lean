/-
  No cell of these rows narrows 'for every input' (looked for: loops, veiled, ifaces, maps, wideKeys, modest, calm, conditions, laid).
  DERIVED. THE GIVEN ROWS OF THIS SEAT. 6 by the template 'for every input the law returns true; each argument reads behind the call as it read before'; 0 by the template 'total and deterministic' (their statements: YtabajpeonchfgaaTotals.lean).
  GIVEN WITH THE SEED: the statements are not yours to turn. If you find one false, say at which input.
  Laid BY PROGRAM, IN A SANDBOX (cutbox-rows.mjs): the forced cells as the released guide's own fill.sh prints them over the translation 8eb394b7c48ca740… (all of the seat's roots in one cut). By AI agents, Wed Nov 11 2026. No macro, syntax, notation, axiom, sorry.
-/
import Derived.Test.YtabajpeonchfgaaChecked
import GoSem.Claim
import GoSem.ClaimJoined
import GoSem.ClaimMapViews
import Derived.JoinedTies
import Derived.KernelRfl
namespace Go.Proofs.Ytabajpeonchfgaa
/- THE CELL 'sum', in the pinned program and in every row, IS THE sha256 OF THE DUMP (.gsa) THAT YtabajpeonchfgaaProg.lean LOADS. Nothing in Lean hashes anything: it is a label: what it is worth is what the hold of that sum in a sandbox is worth. -/
noncomputable def Try.pinned : Pinned := { name := "ytabajpeonchfgaa", sum := "8eb394b7c48ca74007a8c6aeb97a972ac24c0d76519a63f412f9014ed63a7420", checked := Try.checked }
namespace Rows
def none {H : Type} : Left H := { results := [], args := [] }

/-- 'laws.FnExactHashText': WHATEVER THE INPUT: true; the input reads as it did. -/
def fnExactHashTextSpec : ChangeSpec := { name := "fnExactHashText", fn := fun _ => fun
  | [d] => { results := [.lit (.bool true)], args := [d] }
  | _ => none }
def fnExactHashTextRow : OpenClaim := { program := "ytabajpeonchfgaa", sum := "8eb394b7c48ca74007a8c6aeb97a972ac24c0d76519a63f412f9014ed63a7420", func := "loop.example/g00589/laws.FnExactHashText", spec := "fnExactHashText", apart := false }
def FnExactHashTextSaid : Prop := fnExactHashTextRow.holds Try.pinned (OpenSpec.ofChange fnExactHashTextSpec)

/-- ITS FALSE NEIGHBOUR: 'it returns false'. Refute it at one input. -/
def fnExactHashTextWrong : ChangeSpec := { name := "fnExactHashText", fn := fun _ => fun
  | [d] => { results := [.lit (.bool false)], args := [d] }
  | _ => none }
def FnExactHashTextWrongFalsely : Prop := fnExactHashTextRow.holds Try.pinned (OpenSpec.ofChange fnExactHashTextWrong)

/-- 'laws.FnExactVmName': WHATEVER THE INPUT: true; the input reads as it did. -/
def fnExactVmNameSpec : ChangeSpec := { name := "fnExactVmName", fn := fun _ => fun
  | [d] => { results := [.lit (.bool true)], args := [d] }
  | _ => none }
def fnExactVmNameRow : OpenClaim := { program := "ytabajpeonchfgaa", sum := "8eb394b7c48ca74007a8c6aeb97a972ac24c0d76519a63f412f9014ed63a7420", func := "loop.example/g00589/laws.FnExactVmName", spec := "fnExactVmName", apart := false }
def FnExactVmNameSaid : Prop := fnExactVmNameRow.holds Try.pinned (OpenSpec.ofChange fnExactVmNameSpec)

/-- ITS FALSE NEIGHBOUR: 'it returns false'. Refute it at one input. -/
def fnExactVmNameWrong : ChangeSpec := { name := "fnExactVmName", fn := fun _ => fun
  | [d] => { results := [.lit (.bool false)], args := [d] }
  | _ => none }
def FnExactVmNameWrongFalsely : Prop := fnExactVmNameRow.holds Try.pinned (OpenSpec.ofChange fnExactVmNameWrong)

/-- 'laws.FnExactOpName': WHATEVER THE INPUT: true; the input reads as it did. -/
def fnExactOpNameSpec : ChangeSpec := { name := "fnExactOpName", fn := fun _ => fun
  | [d] => { results := [.lit (.bool true)], args := [d] }
  | _ => none }
def fnExactOpNameRow : OpenClaim := { program := "ytabajpeonchfgaa", sum := "8eb394b7c48ca74007a8c6aeb97a972ac24c0d76519a63f412f9014ed63a7420", func := "loop.example/g00589/laws.FnExactOpName", spec := "fnExactOpName", apart := false }
def FnExactOpNameSaid : Prop := fnExactOpNameRow.holds Try.pinned (OpenSpec.ofChange fnExactOpNameSpec)

/-- ITS FALSE NEIGHBOUR: 'it returns false'. Refute it at one input. -/
def fnExactOpNameWrong : ChangeSpec := { name := "fnExactOpName", fn := fun _ => fun
  | [d] => { results := [.lit (.bool false)], args := [d] }
  | _ => none }
def FnExactOpNameWrongFalsely : Prop := fnExactOpNameRow.holds Try.pinned (OpenSpec.ofChange fnExactOpNameWrong)

/-- 'laws.FnExactOpNumber': WHATEVER THE INPUT: true; the input reads as it did. -/
def fnExactOpNumberSpec : ChangeSpec := { name := "fnExactOpNumber", fn := fun _ => fun
  | [d] => { results := [.lit (.bool true)], args := [d] }
  | _ => none }
def fnExactOpNumberRow : OpenClaim := { program := "ytabajpeonchfgaa", sum := "8eb394b7c48ca74007a8c6aeb97a972ac24c0d76519a63f412f9014ed63a7420", func := "loop.example/g00589/laws.FnExactOpNumber", spec := "fnExactOpNumber", apart := false }
def FnExactOpNumberSaid : Prop := fnExactOpNumberRow.holds Try.pinned (OpenSpec.ofChange fnExactOpNumberSpec)

/-- ITS FALSE NEIGHBOUR: 'it returns false'. Refute it at one input. -/
def fnExactOpNumberWrong : ChangeSpec := { name := "fnExactOpNumber", fn := fun _ => fun
  | [d] => { results := [.lit (.bool false)], args := [d] }
  | _ => none }
def FnExactOpNumberWrongFalsely : Prop := fnExactOpNumberRow.holds Try.pinned (OpenSpec.ofChange fnExactOpNumberWrong)

/-- 'laws.FnExactExampleText': WHATEVER THE INPUT: true; the input reads as it did. -/
def fnExactExampleTextSpec : ChangeSpec := { name := "fnExactExampleText", fn := fun _ => fun
  | [d] => { results := [.lit (.bool true)], args := [d] }
  | _ => none }
def fnExactExampleTextRow : OpenClaim := { program := "ytabajpeonchfgaa", sum := "8eb394b7c48ca74007a8c6aeb97a972ac24c0d76519a63f412f9014ed63a7420", func := "loop.example/g00589/laws.FnExactExampleText", spec := "fnExactExampleText", apart := false }
def FnExactExampleTextSaid : Prop := fnExactExampleTextRow.holds Try.pinned (OpenSpec.ofChange fnExactExampleTextSpec)

/-- ITS FALSE NEIGHBOUR: 'it returns false'. Refute it at one input. -/
def fnExactExampleTextWrong : ChangeSpec := { name := "fnExactExampleText", fn := fun _ => fun
  | [d] => { results := [.lit (.bool false)], args := [d] }
  | _ => none }
def FnExactExampleTextWrongFalsely : Prop := fnExactExampleTextRow.holds Try.pinned (OpenSpec.ofChange fnExactExampleTextWrong)

/-- 'laws.FnExactPowerValue': WHATEVER THE INPUT: true; the input reads as it did. -/
def fnExactPowerValueSpec : ChangeSpec := { name := "fnExactPowerValue", fn := fun _ => fun
  | [d1, d2] => { results := [.lit (.bool true)], args := [d1, d2] }
  | _ => none }
def fnExactPowerValueRow : OpenClaim := { program := "ytabajpeonchfgaa", sum := "8eb394b7c48ca74007a8c6aeb97a972ac24c0d76519a63f412f9014ed63a7420", func := "loop.example/g00589/laws.FnExactPowerValue", spec := "fnExactPowerValue", apart := false }
def FnExactPowerValueSaid : Prop := fnExactPowerValueRow.holds Try.pinned (OpenSpec.ofChange fnExactPowerValueSpec)

/-- ITS FALSE NEIGHBOUR: 'it returns false'. Refute it at one input. -/
def fnExactPowerValueWrong : ChangeSpec := { name := "fnExactPowerValue", fn := fun _ => fun
  | [d1, d2] => { results := [.lit (.bool false)], args := [d1, d2] }
  | _ => none }
def FnExactPowerValueWrongFalsely : Prop := fnExactPowerValueRow.holds Try.pinned (OpenSpec.ofChange fnExactPowerValueWrong)

/- THE SECOND FORM. 'bulk': how many values and letters a reading holds, each counted each time it is reached (what is shared counts as often as it is met; a slice's spare places count too). A statement '..UptoSaid' is the law's where the arguments, and the package variables that the reading takes, are together of bulk at most 1048576: NARROWER than '..Said'. Prove '..Said' where nothing that the law and all that it calls make is longer than what came in: it says more and counts as full. Else prove '..UptoSaid'. A law counts once. -/
mutual
def uptoBulk {H : Type} : DataW H → Nat
  | .lit (.string bytes) => bytes.length + 1
  | .lit _ => 1
  | .nil => 1
  | .ptr d => uptoBulk d + 1
  | .slice elems spare => uptoBulkAll elems + uptoBulkAll spare + 1
  | .agg parts => uptoBulkAll parts + 1
  | .iface _ d => uptoBulk d + 1
  | .map entries => uptoBulkEntries entries + 1
  | .held _ => 1
def uptoBulkAll {H : Type} : List (DataW H) → Nat
  | [] => 0
  | d :: r => uptoBulk d + uptoBulkAll r
def uptoBulkEntries {H : Type} : List (Lit × DataW H) → Nat
  | [] => 0
  | x :: r => uptoBulkEntry x + uptoBulkEntries r
def uptoBulkEntry {H : Type} : Lit × DataW H → Nat
  | (.string bytes, d) => bytes.length + uptoBulk d + 1
  | (_, d) => uptoBulk d + 1
 end
def uptoSmall : (H : Type) → List (DataW H) → Bool := fun _ ds => decide (uptoBulkAll ds ≤ 1048576)
def OpenSpec.upto (s : _root_.Go.ChangeSpec) : _root_.Go.OpenSpec := { _root_.Go.OpenSpec.ofChange s with cond := some uptoSmall }

/-- 'laws.FnExactHashText', WHERE WHAT IT READS IS OF BULK AT MOST 1048576: true; the input reads as it did. -/
def fnExactHashTextUptoRow : OpenClaim := { program := "ytabajpeonchfgaa", sum := "8eb394b7c48ca74007a8c6aeb97a972ac24c0d76519a63f412f9014ed63a7420", func := "loop.example/g00589/laws.FnExactHashText", spec := "fnExactHashText", apart := false, narrowed := true }
def FnExactHashTextUptoSaid : Prop := fnExactHashTextUptoRow.holds Try.pinned (OpenSpec.upto fnExactHashTextSpec)

/-- 'laws.FnExactVmName', WHERE WHAT IT READS IS OF BULK AT MOST 1048576: true; the input reads as it did. -/
def fnExactVmNameUptoRow : OpenClaim := { program := "ytabajpeonchfgaa", sum := "8eb394b7c48ca74007a8c6aeb97a972ac24c0d76519a63f412f9014ed63a7420", func := "loop.example/g00589/laws.FnExactVmName", spec := "fnExactVmName", apart := false, narrowed := true }
def FnExactVmNameUptoSaid : Prop := fnExactVmNameUptoRow.holds Try.pinned (OpenSpec.upto fnExactVmNameSpec)

/-- 'laws.FnExactOpName', WHERE WHAT IT READS IS OF BULK AT MOST 1048576: true; the input reads as it did. -/
def fnExactOpNameUptoRow : OpenClaim := { program := "ytabajpeonchfgaa", sum := "8eb394b7c48ca74007a8c6aeb97a972ac24c0d76519a63f412f9014ed63a7420", func := "loop.example/g00589/laws.FnExactOpName", spec := "fnExactOpName", apart := false, narrowed := true }
def FnExactOpNameUptoSaid : Prop := fnExactOpNameUptoRow.holds Try.pinned (OpenSpec.upto fnExactOpNameSpec)

/-- 'laws.FnExactOpNumber', WHERE WHAT IT READS IS OF BULK AT MOST 1048576: true; the input reads as it did. -/
def fnExactOpNumberUptoRow : OpenClaim := { program := "ytabajpeonchfgaa", sum := "8eb394b7c48ca74007a8c6aeb97a972ac24c0d76519a63f412f9014ed63a7420", func := "loop.example/g00589/laws.FnExactOpNumber", spec := "fnExactOpNumber", apart := false, narrowed := true }
def FnExactOpNumberUptoSaid : Prop := fnExactOpNumberUptoRow.holds Try.pinned (OpenSpec.upto fnExactOpNumberSpec)

/-- 'laws.FnExactExampleText', WHERE WHAT IT READS IS OF BULK AT MOST 1048576: true; the input reads as it did. -/
def fnExactExampleTextUptoRow : OpenClaim := { program := "ytabajpeonchfgaa", sum := "8eb394b7c48ca74007a8c6aeb97a972ac24c0d76519a63f412f9014ed63a7420", func := "loop.example/g00589/laws.FnExactExampleText", spec := "fnExactExampleText", apart := false, narrowed := true }
def FnExactExampleTextUptoSaid : Prop := fnExactExampleTextUptoRow.holds Try.pinned (OpenSpec.upto fnExactExampleTextSpec)

/-- 'laws.FnExactPowerValue', WHERE WHAT IT READS IS OF BULK AT MOST 1048576: true; the input reads as it did. -/
def fnExactPowerValueUptoRow : OpenClaim := { program := "ytabajpeonchfgaa", sum := "8eb394b7c48ca74007a8c6aeb97a972ac24c0d76519a63f412f9014ed63a7420", func := "loop.example/g00589/laws.FnExactPowerValue", spec := "fnExactPowerValue", apart := false, narrowed := true }
def FnExactPowerValueUptoSaid : Prop := fnExactPowerValueUptoRow.holds Try.pinned (OpenSpec.upto fnExactPowerValueSpec)

end Rows
end Go.Proofs.Ytabajpeonchfgaa
