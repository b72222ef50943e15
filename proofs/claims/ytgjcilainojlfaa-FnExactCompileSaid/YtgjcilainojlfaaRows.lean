/-
  NARROWER THAN 'FOR EVERY INPUT', by the rows' own cells (each row's printed sentence says how): FnExactLinearOf: loops · FnExactCompile: loops.
  DERIVED. THE GIVEN ROWS OF THIS SEAT. 3 by the template 'for every input the law returns true; each argument reads behind the call as it read before'; 0 by the template 'total and deterministic' (their statements: YtgjcilainojlfaaTotals.lean).
  GIVEN WITH THE SEED: the statements are not yours to turn. If you find one false, say at which input.
  Laid BY PROGRAM, IN A SANDBOX (cutbox-rows.mjs): the forced cells as the released guide's own fill.sh prints them over the translation 8b595d62c2746ca6… (all of the seat's roots in one cut). By AI agents, Wed Nov 11 2026. No macro, syntax, notation, axiom, sorry.
-/
import Derived.Test.YtgjcilainojlfaaChecked
import GoSem.Claim
import GoSem.ClaimJoined
import GoSem.ClaimMapViews
import Derived.JoinedTies
import Derived.KernelRfl
namespace Go.Proofs.Ytgjcilainojlfaa
/- THE CELL 'sum', in the pinned program and in every row, IS THE sha256 OF THE DUMP (.gsa) THAT YtgjcilainojlfaaProg.lean LOADS. Nothing in Lean hashes anything: it is a label: what it is worth is what the hold of that sum in a sandbox is worth. -/
noncomputable def Try.pinned : Pinned := { name := "ytgjcilainojlfaa", sum := "8b595d62c2746ca6048d812f9c7b70a1573dc24efc5f47f03831b237ba1367ca", checked := Try.checked }
namespace Rows
def none {H : Type} : Left H := { results := [], args := [] }

/-- 'laws.FnExactLinearOf': WHATEVER THE INPUT: true; the input reads as it did. -/
def fnExactLinearOfSpec : ChangeSpec := { name := "fnExactLinearOf", fn := fun _ => fun
  | [d] => { results := [.lit (.bool true)], args := [d] }
  | _ => none }
def fnExactLinearOfRow : OpenClaim := { program := "ytgjcilainojlfaa", sum := "8b595d62c2746ca6048d812f9c7b70a1573dc24efc5f47f03831b237ba1367ca", func := "loop.example/g00589/laws.FnExactLinearOf", spec := "fnExactLinearOf", inPlace := ["internal/bytealg.abigen_runtime_cmpstring"], unfollowed := true, recurses := true, loops := true, apart := false }
def FnExactLinearOfSaid : Prop := fnExactLinearOfRow.holds Try.pinned (OpenSpec.ofChange fnExactLinearOfSpec)

/-- ITS FALSE NEIGHBOUR: 'it returns false'. Refute it at one input. -/
def fnExactLinearOfWrong : ChangeSpec := { name := "fnExactLinearOf", fn := fun _ => fun
  | [d] => { results := [.lit (.bool false)], args := [d] }
  | _ => none }
def FnExactLinearOfWrongFalsely : Prop := fnExactLinearOfRow.holds Try.pinned (OpenSpec.ofChange fnExactLinearOfWrong)

/-- 'laws.FnExactRunCode': WHATEVER THE INPUT: true; the input reads as it did. -/
def fnExactRunCodeSpec : ChangeSpec := { name := "fnExactRunCode", fn := fun _ => fun
  | [d1, d2] => { results := [.lit (.bool true)], args := [d1, d2] }
  | _ => none }
def fnExactRunCodeRow : OpenClaim := { program := "ytgjcilainojlfaa", sum := "8b595d62c2746ca6048d812f9c7b70a1573dc24efc5f47f03831b237ba1367ca", func := "loop.example/g00589/laws.FnExactRunCode", spec := "fnExactRunCode", unfollowed := true, recurses := true, apart := false }
def FnExactRunCodeSaid : Prop := fnExactRunCodeRow.holds Try.pinned (OpenSpec.ofChange fnExactRunCodeSpec)

/-- ITS FALSE NEIGHBOUR: 'it returns false'. Refute it at one input. -/
def fnExactRunCodeWrong : ChangeSpec := { name := "fnExactRunCode", fn := fun _ => fun
  | [d1, d2] => { results := [.lit (.bool false)], args := [d1, d2] }
  | _ => none }
def FnExactRunCodeWrongFalsely : Prop := fnExactRunCodeRow.holds Try.pinned (OpenSpec.ofChange fnExactRunCodeWrong)

/-- 'laws.FnExactCompile': WHATEVER THE INPUT: true; the input reads as it did. -/
def fnExactCompileSpec : ChangeSpec := { name := "fnExactCompile", fn := fun _ => fun
  | [d] => { results := [.lit (.bool true)], args := [d] }
  | _ => none }
def fnExactCompileRow : OpenClaim := { program := "ytgjcilainojlfaa", sum := "8b595d62c2746ca6048d812f9c7b70a1573dc24efc5f47f03831b237ba1367ca", func := "loop.example/g00589/laws.FnExactCompile", spec := "fnExactCompile", unfollowed := true, recurses := true, loops := true, apart := false }
def FnExactCompileSaid : Prop := fnExactCompileRow.holds Try.pinned (OpenSpec.ofChange fnExactCompileSpec)

/-- ITS FALSE NEIGHBOUR: 'it returns false'. Refute it at one input. -/
def fnExactCompileWrong : ChangeSpec := { name := "fnExactCompile", fn := fun _ => fun
  | [d] => { results := [.lit (.bool false)], args := [d] }
  | _ => none }
def FnExactCompileWrongFalsely : Prop := fnExactCompileRow.holds Try.pinned (OpenSpec.ofChange fnExactCompileWrong)

/- THE SECOND FORM. 'bulk': how many values and letters a reading holds, each counted each time it is reached (what is shared counts as often as it is met; a slice's spare places count too). A statement '..UptoSaid' is the law's where the arguments, and the package variables that the reading takes, are together of bulk at most 1048576: NARROWER than '..Said'. Prove '..Said' where nothing that the law and all that it calls make is longer than what came in: it says more and counts as full. Else prove '..UptoSaid'. A law counts once. -/
mutual
def uptoBulk {H : Type} : DataW H → Nat
  | .lit (.string bytes) => bytes.length + 1
  | .lit _ => 1
  | .nil => 1
  | .ptr d => uptoBulk d + 1
  | .slice elems spare => uptoBulkAll elems + uptoBulkAll spare + 1
  | .agg parts => uptoBulkAll parts + 1
  | .iface _ d => uptoBulk d + 1
  | .map entries => uptoBulkEntries entries + 1
  | .held _ => 1
def uptoBulkAll {H : Type} : List (DataW H) → Nat
  | [] => 0
  | d :: r => uptoBulk d + uptoBulkAll r
def uptoBulkEntries {H : Type} : List (Lit × DataW H) → Nat
  | [] => 0
  | x :: r => uptoBulkEntry x + uptoBulkEntries r
def uptoBulkEntry {H : Type} : Lit × DataW H → Nat
  | (.string bytes, d) => bytes.length + uptoBulk d + 1
  | (_, d) => uptoBulk d + 1
 end
def uptoSmall : (H : Type) → List (DataW H) → Bool := fun _ ds => decide (uptoBulkAll ds ≤ 1048576)
def OpenSpec.upto (s : _root_.Go.ChangeSpec) : _root_.Go.OpenSpec := { _root_.Go.OpenSpec.ofChange s with cond := some uptoSmall }

/-- 'laws.FnExactLinearOf', WHERE WHAT IT READS IS OF BULK AT MOST 1048576: true; the input reads as it did. -/
def fnExactLinearOfUptoRow : OpenClaim := { program := "ytgjcilainojlfaa", sum := "8b595d62c2746ca6048d812f9c7b70a1573dc24efc5f47f03831b237ba1367ca", func := "loop.example/g00589/laws.FnExactLinearOf", spec := "fnExactLinearOf", inPlace := ["internal/bytealg.abigen_runtime_cmpstring"], unfollowed := true, recurses := true, loops := true, apart := false, narrowed := true }
def FnExactLinearOfUptoSaid : Prop := fnExactLinearOfUptoRow.holds Try.pinned (OpenSpec.upto fnExactLinearOfSpec)

/-- 'laws.FnExactRunCode', WHERE WHAT IT READS IS OF BULK AT MOST 1048576: true; the input reads as it did. -/
def fnExactRunCodeUptoRow : OpenClaim := { program := "ytgjcilainojlfaa", sum := "8b595d62c2746ca6048d812f9c7b70a1573dc24efc5f47f03831b237ba1367ca", func := "loop.example/g00589/laws.FnExactRunCode", spec := "fnExactRunCode", unfollowed := true, recurses := true, apart := false, narrowed := true }
def FnExactRunCodeUptoSaid : Prop := fnExactRunCodeUptoRow.holds Try.pinned (OpenSpec.upto fnExactRunCodeSpec)

/-- 'laws.FnExactCompile', WHERE WHAT IT READS IS OF BULK AT MOST 1048576: true; the input reads as it did. -/
def fnExactCompileUptoRow : OpenClaim := { program := "ytgjcilainojlfaa", sum := "8b595d62c2746ca6048d812f9c7b70a1573dc24efc5f47f03831b237ba1367ca", func := "loop.example/g00589/laws.FnExactCompile", spec := "fnExactCompile", unfollowed := true, recurses := true, loops := true, apart := false, narrowed := true }
def FnExactCompileUptoSaid : Prop := fnExactCompileUptoRow.holds Try.pinned (OpenSpec.upto fnExactCompileSpec)

end Rows
end Go.Proofs.Ytgjcilainojlfaa
