/-
  No cell of these rows narrows 'for every input' (looked for: loops, veiled, ifaces, maps, wideKeys, modest, calm, conditions, laid).
  DERIVED. THE GIVEN ROWS OF THIS SEAT. 4 by the template 'for every input the law returns true; each argument reads behind the call as it read before'; 0 by the template 'total and deterministic' (their statements: YtaidalilfmjfgaaGreatTotals.lean).
  GIVEN WITH THE SEED: the statements are not yours to turn. If you find one false, say at which input.
  Laid BY PROGRAM, IN A SANDBOX (cutbox-rows.mjs): the forced cells as the released guide's own fill.sh prints them over the translation e421d12583706f2b… (all of the seat's roots in one cut). By AI agents, Wed Nov 11 2026. No macro, syntax, notation, axiom, sorry.
-/
import Derived.Test.YtaidalilfmjfgaaGreatChecked
import GoSem.Claim
import GoSem.ClaimJoined
import GoSem.ClaimMapViews
import Derived.JoinedTies
import Derived.KernelRfl
namespace Go.Proofs.YtaidalilfmjfgaaGreat
/- THE CELL 'sum', in the pinned program and in every row, IS THE sha256 OF THE DUMP (.gsa) THAT YtaidalilfmjfgaaGreatProg.lean LOADS. Nothing in Lean hashes anything: it is a label: what it is worth is what the hold of that sum in a sandbox is worth. -/
noncomputable def Tryz.pinned : Pinned := { name := "ytaidalilfmjfgaagreat", sum := "e421d12583706f2b7b0c5d7763e6a85f6c0f80ce505eba28110fae2979130d5b", checked := Tryz.checked }
namespace Rows
def none {H : Type} : Left H := { results := [], args := [] }

/-- 'laws.FnCompiled': WHATEVER THE INPUT: true; the input reads as it did. -/
def fnCompiledSpec : ChangeSpec := { name := "fnCompiled", fn := fun _ => fun
  | [d] => { results := [.lit (.bool true)], args := [d] }
  | _ => none }
def fnCompiledRow : OpenClaim := { program := "ytaidalilfmjfgaagreat", sum := "e421d12583706f2b7b0c5d7763e6a85f6c0f80ce505eba28110fae2979130d5b", func := "loop.example/g00589/laws.FnCompiled", spec := "fnCompiled", unfollowed := true, recurses := true, apart := false }
def FnCompiledSaid : Prop := fnCompiledRow.holds Tryz.pinned (OpenSpec.ofChange fnCompiledSpec)

/-- ITS FALSE NEIGHBOUR: 'it returns false'. Refute it at one input. -/
def fnCompiledWrong : ChangeSpec := { name := "fnCompiled", fn := fun _ => fun
  | [d] => { results := [.lit (.bool false)], args := [d] }
  | _ => none }
def FnCompiledWrongFalsely : Prop := fnCompiledRow.holds Tryz.pinned (OpenSpec.ofChange fnCompiledWrong)

/-- 'laws.FnVerified': WHATEVER THE INPUT: true; the input reads as it did. -/
def fnVerifiedSpec : ChangeSpec := { name := "fnVerified", fn := fun _ => fun
  | [d] => { results := [.lit (.bool true)], args := [d] }
  | _ => none }
def fnVerifiedRow : OpenClaim := { program := "ytaidalilfmjfgaagreat", sum := "e421d12583706f2b7b0c5d7763e6a85f6c0f80ce505eba28110fae2979130d5b", func := "loop.example/g00589/laws.FnVerified", spec := "fnVerified", unfollowed := true, recurses := true, apart := false }
def FnVerifiedSaid : Prop := fnVerifiedRow.holds Tryz.pinned (OpenSpec.ofChange fnVerifiedSpec)

/-- ITS FALSE NEIGHBOUR: 'it returns false'. Refute it at one input. -/
def fnVerifiedWrong : ChangeSpec := { name := "fnVerified", fn := fun _ => fun
  | [d] => { results := [.lit (.bool false)], args := [d] }
  | _ => none }
def FnVerifiedWrongFalsely : Prop := fnVerifiedRow.holds Tryz.pinned (OpenSpec.ofChange fnVerifiedWrong)

/-- 'laws.FnMachine': WHATEVER THE INPUT: true; the input reads as it did. -/
def fnMachineSpec : ChangeSpec := { name := "fnMachine", fn := fun _ => fun
  | [d] => { results := [.lit (.bool true)], args := [d] }
  | _ => none }
def fnMachineRow : OpenClaim := { program := "ytaidalilfmjfgaagreat", sum := "e421d12583706f2b7b0c5d7763e6a85f6c0f80ce505eba28110fae2979130d5b", func := "loop.example/g00589/laws.FnMachine", spec := "fnMachine", unfollowed := true, recurses := true, apart := false }
def FnMachineSaid : Prop := fnMachineRow.holds Tryz.pinned (OpenSpec.ofChange fnMachineSpec)

/-- ITS FALSE NEIGHBOUR: 'it returns false'. Refute it at one input. -/
def fnMachineWrong : ChangeSpec := { name := "fnMachine", fn := fun _ => fun
  | [d] => { results := [.lit (.bool false)], args := [d] }
  | _ => none }
def FnMachineWrongFalsely : Prop := fnMachineRow.holds Tryz.pinned (OpenSpec.ofChange fnMachineWrong)

/-- 'laws.FnSums': WHATEVER THE INPUT: true; the input reads as it did. -/
def fnSumsSpec : ChangeSpec := { name := "fnSums", fn := fun _ => fun
  | [d] => { results := [.lit (.bool true)], args := [d] }
  | _ => none }
def fnSumsRow : OpenClaim := { program := "ytaidalilfmjfgaagreat", sum := "e421d12583706f2b7b0c5d7763e6a85f6c0f80ce505eba28110fae2979130d5b", func := "loop.example/g00589/laws.FnSums", spec := "fnSums", inPlace := ["internal/bytealg.abigen_runtime_cmpstring"], unfollowed := true, recurses := true, apart := false }
def FnSumsSaid : Prop := fnSumsRow.holds Tryz.pinned (OpenSpec.ofChange fnSumsSpec)

/-- ITS FALSE NEIGHBOUR: 'it returns false'. Refute it at one input. -/
def fnSumsWrong : ChangeSpec := { name := "fnSums", fn := fun _ => fun
  | [d] => { results := [.lit (.bool false)], args := [d] }
  | _ => none }
def FnSumsWrongFalsely : Prop := fnSumsRow.holds Tryz.pinned (OpenSpec.ofChange fnSumsWrong)

/- THE SECOND FORM. 'bulk': how many values and letters a reading holds, each counted each time it is reached (what is shared counts as often as it is met; a slice's spare places count too). A statement '..UptoSaid' is the law's where the arguments, and the package variables that the reading takes, are together of bulk at most 1048576: NARROWER than '..Said'. Prove '..Said' where nothing that the law and all that it calls make is longer than what came in: it says more and counts as full. Else prove '..UptoSaid'. A law counts once. -/
mutual
def uptoBulk {H : Type} : DataW H → Nat
  | .lit (.string bytes) => bytes.length + 1
  | .lit _ => 1
  | .nil => 1
  | .ptr d => uptoBulk d + 1
  | .slice elems spare => uptoBulkAll elems + uptoBulkAll spare + 1
  | .agg parts => uptoBulkAll parts + 1
  | .iface _ d => uptoBulk d + 1
  | .map entries => uptoBulkEntries entries + 1
  | .held _ => 1
def uptoBulkAll {H : Type} : List (DataW H) → Nat
  | [] => 0
  | d :: r => uptoBulk d + uptoBulkAll r
def uptoBulkEntries {H : Type} : List (Lit × DataW H) → Nat
  | [] => 0
  | x :: r => uptoBulkEntry x + uptoBulkEntries r
def uptoBulkEntry {H : Type} : Lit × DataW H → Nat
  | (.string bytes, d) => bytes.length + uptoBulk d + 1
  | (_, d) => uptoBulk d + 1
 end
def uptoSmall : (H : Type) → List (DataW H) → Bool := fun _ ds => decide (uptoBulkAll ds ≤ 1048576)
def OpenSpec.upto (s : _root_.Go.ChangeSpec) : _root_.Go.OpenSpec := { _root_.Go.OpenSpec.ofChange s with cond := some uptoSmall }

/-- 'laws.FnCompiled', WHERE WHAT IT READS IS OF BULK AT MOST 1048576: true; the input reads as it did. -/
def fnCompiledUptoRow : OpenClaim := { program := "ytaidalilfmjfgaagreat", sum := "e421d12583706f2b7b0c5d7763e6a85f6c0f80ce505eba28110fae2979130d5b", func := "loop.example/g00589/laws.FnCompiled", spec := "fnCompiled", unfollowed := true, recurses := true, apart := false, narrowed := true }
def FnCompiledUptoSaid : Prop := fnCompiledUptoRow.holds Tryz.pinned (OpenSpec.upto fnCompiledSpec)

/-- 'laws.FnVerified', WHERE WHAT IT READS IS OF BULK AT MOST 1048576: true; the input reads as it did. -/
def fnVerifiedUptoRow : OpenClaim := { program := "ytaidalilfmjfgaagreat", sum := "e421d12583706f2b7b0c5d7763e6a85f6c0f80ce505eba28110fae2979130d5b", func := "loop.example/g00589/laws.FnVerified", spec := "fnVerified", unfollowed := true, recurses := true, apart := false, narrowed := true }
def FnVerifiedUptoSaid : Prop := fnVerifiedUptoRow.holds Tryz.pinned (OpenSpec.upto fnVerifiedSpec)

/-- 'laws.FnMachine', WHERE WHAT IT READS IS OF BULK AT MOST 1048576: true; the input reads as it did. -/
def fnMachineUptoRow : OpenClaim := { program := "ytaidalilfmjfgaagreat", sum := "e421d12583706f2b7b0c5d7763e6a85f6c0f80ce505eba28110fae2979130d5b", func := "loop.example/g00589/laws.FnMachine", spec := "fnMachine", unfollowed := true, recurses := true, apart := false, narrowed := true }
def FnMachineUptoSaid : Prop := fnMachineUptoRow.holds Tryz.pinned (OpenSpec.upto fnMachineSpec)

/-- 'laws.FnSums', WHERE WHAT IT READS IS OF BULK AT MOST 1048576: true; the input reads as it did. -/
def fnSumsUptoRow : OpenClaim := { program := "ytaidalilfmjfgaagreat", sum := "e421d12583706f2b7b0c5d7763e6a85f6c0f80ce505eba28110fae2979130d5b", func := "loop.example/g00589/laws.FnSums", spec := "fnSums", inPlace := ["internal/bytealg.abigen_runtime_cmpstring"], unfollowed := true, recurses := true, apart := false, narrowed := true }
def FnSumsUptoSaid : Prop := fnSumsUptoRow.holds Tryz.pinned (OpenSpec.upto fnSumsSpec)

end Rows
end Go.Proofs.YtaidalilfmjfgaaGreat
