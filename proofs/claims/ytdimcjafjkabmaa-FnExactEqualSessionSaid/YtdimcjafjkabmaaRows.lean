/-
  NARROWER THAN 'FOR EVERY INPUT', by the rows' own cells (each row's printed sentence says how): FnExactEqualCache: loops · FnExactEqualSession: loops · FnExactStagedType: loops · FnExactFunctionOf: loops · FnExactCallOf: loops · FnExactLinearOf: loops · FnExactLiftOf: loops · FnExactCodePart: loops.
  DERIVED. THE GIVEN ROWS OF THIS SEAT. 11 by the template 'for every input the law returns true; each argument reads behind the call as it read before'; 0 by the template 'total and deterministic' (their statements: YtdimcjafjkabmaaTotals.lean).
  GIVEN WITH THE SEED: the statements are not yours to turn. If you find one false, say at which input.
  Laid BY PROGRAM, IN A SANDBOX (cutbox-rows.mjs): the forced cells as the released guide's own fill.sh prints them over the translation 90154268014befe7… (all of the seat's roots in one cut). By AI agents, Wed Nov 11 2026. No macro, syntax, notation, axiom, sorry.
-/
import Derived.Test.YtdimcjafjkabmaaChecked
import GoSem.Claim
import GoSem.ClaimJoined
import GoSem.ClaimMapViews
import Derived.JoinedTies
import Derived.KernelRfl
namespace Go.Proofs.Ytdimcjafjkabmaa
/- THE CELL 'sum', in the pinned program and in every row, IS THE sha256 OF THE DUMP (.gsa) THAT YtdimcjafjkabmaaProg.lean LOADS. Nothing in Lean hashes anything: it is a label: what it is worth is what the hold of that sum in a sandbox is worth. -/
noncomputable def Try.pinned : Pinned := { name := "ytdimcjafjkabmaa", sum := "90154268014befe7f29d71e4031ce550c77793fd0a7f135b38afcd43c1b0e94b", checked := Try.checked }
namespace Rows
def none {H : Type} : Left H := { results := [], args := [] }

/-- 'laws.FnExactEqualCache': WHATEVER THE INPUT: true; the input reads as it did. -/
def fnExactEqualCacheSpec : ChangeSpec := { name := "fnExactEqualCache", fn := fun _ => fun
  | [d1, d2] => { results := [.lit (.bool true)], args := [d1, d2] }
  | _ => none }
def fnExactEqualCacheRow : OpenClaim := { program := "ytdimcjafjkabmaa", sum := "90154268014befe7f29d71e4031ce550c77793fd0a7f135b38afcd43c1b0e94b", func := "loop.example/g00589/laws.FnExactEqualCache", spec := "fnExactEqualCache", unfollowed := true, recurses := true, loops := true, apart := false }
def FnExactEqualCacheSaid : Prop := fnExactEqualCacheRow.holds Try.pinned (OpenSpec.ofChange fnExactEqualCacheSpec)

/-- ITS FALSE NEIGHBOUR: 'it returns false'. Refute it at one input. -/
def fnExactEqualCacheWrong : ChangeSpec := { name := "fnExactEqualCache", fn := fun _ => fun
  | [d1, d2] => { results := [.lit (.bool false)], args := [d1, d2] }
  | _ => none }
def FnExactEqualCacheWrongFalsely : Prop := fnExactEqualCacheRow.holds Try.pinned (OpenSpec.ofChange fnExactEqualCacheWrong)

/-- 'laws.FnExactEqualSession': WHATEVER THE INPUT: true; the input reads as it did. -/
def fnExactEqualSessionSpec : ChangeSpec := { name := "fnExactEqualSession", fn := fun _ => fun
  | [d1, d2] => { results := [.lit (.bool true)], args := [d1, d2] }
  | _ => none }
def fnExactEqualSessionRow : OpenClaim := { program := "ytdimcjafjkabmaa", sum := "90154268014befe7f29d71e4031ce550c77793fd0a7f135b38afcd43c1b0e94b", func := "loop.example/g00589/laws.FnExactEqualSession", spec := "fnExactEqualSession", unfollowed := true, recurses := true, loops := true, apart := false }
def FnExactEqualSessionSaid : Prop := fnExactEqualSessionRow.holds Try.pinned (OpenSpec.ofChange fnExactEqualSessionSpec)

/-- ITS FALSE NEIGHBOUR: 'it returns false'. Refute it at one input. -/
def fnExactEqualSessionWrong : ChangeSpec := { name := "fnExactEqualSession", fn := fun _ => fun
  | [d1, d2] => { results := [.lit (.bool false)], args := [d1, d2] }
  | _ => none }
def FnExactEqualSessionWrongFalsely : Prop := fnExactEqualSessionRow.holds Try.pinned (OpenSpec.ofChange fnExactEqualSessionWrong)

/-- 'laws.FnExactNewSession': WHATEVER THE INPUT: true; the input reads as it did. -/
def fnExactNewSessionSpec : ChangeSpec := { name := "fnExactNewSession", fn := fun _ => fun
  | [] => { results := [.lit (.bool true)], args := [] }
  | _ => none }
def fnExactNewSessionRow : OpenClaim := { program := "ytdimcjafjkabmaa", sum := "90154268014befe7f29d71e4031ce550c77793fd0a7f135b38afcd43c1b0e94b", func := "loop.example/g00589/laws.FnExactNewSession", spec := "fnExactNewSession", recurses := true, apart := false }
def FnExactNewSessionSaid : Prop := fnExactNewSessionRow.holds Try.pinned (OpenSpec.ofChange fnExactNewSessionSpec)

/-- ITS FALSE NEIGHBOUR: 'it returns false'. Refute it at one input. -/
def fnExactNewSessionWrong : ChangeSpec := { name := "fnExactNewSession", fn := fun _ => fun
  | [] => { results := [.lit (.bool false)], args := [] }
  | _ => none }
def FnExactNewSessionWrongFalsely : Prop := fnExactNewSessionRow.holds Try.pinned (OpenSpec.ofChange fnExactNewSessionWrong)

/-- 'laws.FnExactStagedType': WHATEVER THE INPUT: true; the input reads as it did. -/
def fnExactStagedTypeSpec : ChangeSpec := { name := "fnExactStagedType", fn := fun _ => fun
  | [d1, d2] => { results := [.lit (.bool true)], args := [d1, d2] }
  | _ => none }
def fnExactStagedTypeRow : OpenClaim := { program := "ytdimcjafjkabmaa", sum := "90154268014befe7f29d71e4031ce550c77793fd0a7f135b38afcd43c1b0e94b", func := "loop.example/g00589/laws.FnExactStagedType", spec := "fnExactStagedType", recurses := true, loops := true, apart := false }
def FnExactStagedTypeSaid : Prop := fnExactStagedTypeRow.holds Try.pinned (OpenSpec.ofChange fnExactStagedTypeSpec)

/-- ITS FALSE NEIGHBOUR: 'it returns false'. Refute it at one input. -/
def fnExactStagedTypeWrong : ChangeSpec := { name := "fnExactStagedType", fn := fun _ => fun
  | [d1, d2] => { results := [.lit (.bool false)], args := [d1, d2] }
  | _ => none }
def FnExactStagedTypeWrongFalsely : Prop := fnExactStagedTypeRow.holds Try.pinned (OpenSpec.ofChange fnExactStagedTypeWrong)

/-- 'laws.FnExactFunctionOf': WHATEVER THE INPUT: true; the input reads as it did. -/
def fnExactFunctionOfSpec : ChangeSpec := { name := "fnExactFunctionOf", fn := fun _ => fun
  | [d1, d2] => { results := [.lit (.bool true)], args := [d1, d2] }
  | _ => none }
def fnExactFunctionOfRow : OpenClaim := { program := "ytdimcjafjkabmaa", sum := "90154268014befe7f29d71e4031ce550c77793fd0a7f135b38afcd43c1b0e94b", func := "loop.example/g00589/laws.FnExactFunctionOf", spec := "fnExactFunctionOf", unfollowed := true, recurses := true, loops := true, apart := false }
def FnExactFunctionOfSaid : Prop := fnExactFunctionOfRow.holds Try.pinned (OpenSpec.ofChange fnExactFunctionOfSpec)

/-- ITS FALSE NEIGHBOUR: 'it returns false'. Refute it at one input. -/
def fnExactFunctionOfWrong : ChangeSpec := { name := "fnExactFunctionOf", fn := fun _ => fun
  | [d1, d2] => { results := [.lit (.bool false)], args := [d1, d2] }
  | _ => none }
def FnExactFunctionOfWrongFalsely : Prop := fnExactFunctionOfRow.holds Try.pinned (OpenSpec.ofChange fnExactFunctionOfWrong)

/-- 'laws.FnExactCallOf': WHATEVER THE INPUT: true; the input reads as it did. -/
def fnExactCallOfSpec : ChangeSpec := { name := "fnExactCallOf", fn := fun _ => fun
  | [d1, d2, d3] => { results := [.lit (.bool true)], args := [d1, d2, d3] }
  | _ => none }
def fnExactCallOfRow : OpenClaim := { program := "ytdimcjafjkabmaa", sum := "90154268014befe7f29d71e4031ce550c77793fd0a7f135b38afcd43c1b0e94b", func := "loop.example/g00589/laws.FnExactCallOf", spec := "fnExactCallOf", unfollowed := true, recurses := true, loops := true, apart := false }
def FnExactCallOfSaid : Prop := fnExactCallOfRow.holds Try.pinned (OpenSpec.ofChange fnExactCallOfSpec)

/-- ITS FALSE NEIGHBOUR: 'it returns false'. Refute it at one input. -/
def fnExactCallOfWrong : ChangeSpec := { name := "fnExactCallOf", fn := fun _ => fun
  | [d1, d2, d3] => { results := [.lit (.bool false)], args := [d1, d2, d3] }
  | _ => none }
def FnExactCallOfWrongFalsely : Prop := fnExactCallOfRow.holds Try.pinned (OpenSpec.ofChange fnExactCallOfWrong)

/-- 'laws.FnExactSumTerm': WHATEVER THE INPUT: true; the input reads as it did. -/
def fnExactSumTermSpec : ChangeSpec := { name := "fnExactSumTerm", fn := fun _ => fun
  | [d] => { results := [.lit (.bool true)], args := [d] }
  | _ => none }
def fnExactSumTermRow : OpenClaim := { program := "ytdimcjafjkabmaa", sum := "90154268014befe7f29d71e4031ce550c77793fd0a7f135b38afcd43c1b0e94b", func := "loop.example/g00589/laws.FnExactSumTerm", spec := "fnExactSumTerm", recurses := true, apart := false }
def FnExactSumTermSaid : Prop := fnExactSumTermRow.holds Try.pinned (OpenSpec.ofChange fnExactSumTermSpec)

/-- ITS FALSE NEIGHBOUR: 'it returns false'. Refute it at one input. -/
def fnExactSumTermWrong : ChangeSpec := { name := "fnExactSumTerm", fn := fun _ => fun
  | [d] => { results := [.lit (.bool false)], args := [d] }
  | _ => none }
def FnExactSumTermWrongFalsely : Prop := fnExactSumTermRow.holds Try.pinned (OpenSpec.ofChange fnExactSumTermWrong)

/-- 'laws.FnExactAddSums': WHATEVER THE INPUT: true; the input reads as it did. -/
def fnExactAddSumsSpec : ChangeSpec := { name := "fnExactAddSums", fn := fun _ => fun
  | [d1, d2] => { results := [.lit (.bool true)], args := [d1, d2] }
  | _ => none }
def fnExactAddSumsRow : OpenClaim := { program := "ytdimcjafjkabmaa", sum := "90154268014befe7f29d71e4031ce550c77793fd0a7f135b38afcd43c1b0e94b", func := "loop.example/g00589/laws.FnExactAddSums", spec := "fnExactAddSums", inPlace := ["internal/bytealg.abigen_runtime_cmpstring"], unfollowed := true, recurses := true, apart := false }
def FnExactAddSumsSaid : Prop := fnExactAddSumsRow.holds Try.pinned (OpenSpec.ofChange fnExactAddSumsSpec)

/-- ITS FALSE NEIGHBOUR: 'it returns false'. Refute it at one input. -/
def fnExactAddSumsWrong : ChangeSpec := { name := "fnExactAddSums", fn := fun _ => fun
  | [d1, d2] => { results := [.lit (.bool false)], args := [d1, d2] }
  | _ => none }
def FnExactAddSumsWrongFalsely : Prop := fnExactAddSumsRow.holds Try.pinned (OpenSpec.ofChange fnExactAddSumsWrong)

/-- 'laws.FnExactLinearOf': WHATEVER THE INPUT: true; the input reads as it did. -/
def fnExactLinearOfSpec : ChangeSpec := { name := "fnExactLinearOf", fn := fun _ => fun
  | [d] => { results := [.lit (.bool true)], args := [d] }
  | _ => none }
def fnExactLinearOfRow : OpenClaim := { program := "ytdimcjafjkabmaa", sum := "90154268014befe7f29d71e4031ce550c77793fd0a7f135b38afcd43c1b0e94b", func := "loop.example/g00589/laws.FnExactLinearOf", spec := "fnExactLinearOf", inPlace := ["internal/bytealg.abigen_runtime_cmpstring"], unfollowed := true, recurses := true, loops := true, apart := false }
def FnExactLinearOfSaid : Prop := fnExactLinearOfRow.holds Try.pinned (OpenSpec.ofChange fnExactLinearOfSpec)

/-- ITS FALSE NEIGHBOUR: 'it returns false'. Refute it at one input. -/
def fnExactLinearOfWrong : ChangeSpec := { name := "fnExactLinearOf", fn := fun _ => fun
  | [d] => { results := [.lit (.bool false)], args := [d] }
  | _ => none }
def FnExactLinearOfWrongFalsely : Prop := fnExactLinearOfRow.holds Try.pinned (OpenSpec.ofChange fnExactLinearOfWrong)

/-- 'laws.FnExactLiftOf': WHATEVER THE INPUT: true; the input reads as it did. -/
def fnExactLiftOfSpec : ChangeSpec := { name := "fnExactLiftOf", fn := fun _ => fun
  | [d] => { results := [.lit (.bool true)], args := [d] }
  | _ => none }
def fnExactLiftOfRow : OpenClaim := { program := "ytdimcjafjkabmaa", sum := "90154268014befe7f29d71e4031ce550c77793fd0a7f135b38afcd43c1b0e94b", func := "loop.example/g00589/laws.FnExactLiftOf", spec := "fnExactLiftOf", unfollowed := true, recurses := true, loops := true, apart := false }
def FnExactLiftOfSaid : Prop := fnExactLiftOfRow.holds Try.pinned (OpenSpec.ofChange fnExactLiftOfSpec)

/-- ITS FALSE NEIGHBOUR: 'it returns false'. Refute it at one input. -/
def fnExactLiftOfWrong : ChangeSpec := { name := "fnExactLiftOf", fn := fun _ => fun
  | [d] => { results := [.lit (.bool false)], args := [d] }
  | _ => none }
def FnExactLiftOfWrongFalsely : Prop := fnExactLiftOfRow.holds Try.pinned (OpenSpec.ofChange fnExactLiftOfWrong)

/-- 'laws.FnExactCodePart': WHATEVER THE INPUT: true; the input reads as it did. -/
def fnExactCodePartSpec : ChangeSpec := { name := "fnExactCodePart", fn := fun _ => fun
  | [d] => { results := [.lit (.bool true)], args := [d] }
  | _ => none }
def fnExactCodePartRow : OpenClaim := { program := "ytdimcjafjkabmaa", sum := "90154268014befe7f29d71e4031ce550c77793fd0a7f135b38afcd43c1b0e94b", func := "loop.example/g00589/laws.FnExactCodePart", spec := "fnExactCodePart", unfollowed := true, recurses := true, loops := true, apart := false }
def FnExactCodePartSaid : Prop := fnExactCodePartRow.holds Try.pinned (OpenSpec.ofChange fnExactCodePartSpec)

/-- ITS FALSE NEIGHBOUR: 'it returns false'. Refute it at one input. -/
def fnExactCodePartWrong : ChangeSpec := { name := "fnExactCodePart", fn := fun _ => fun
  | [d] => { results := [.lit (.bool false)], args := [d] }
  | _ => none }
def FnExactCodePartWrongFalsely : Prop := fnExactCodePartRow.holds Try.pinned (OpenSpec.ofChange fnExactCodePartWrong)

/- THE SECOND FORM. 'bulk': how many values and letters a reading holds, each counted each time it is reached (what is shared counts as often as it is met; a slice's spare places count too). A statement '..UptoSaid' is the law's where the arguments, and the package variables that the reading takes, are together of bulk at most 1048576: NARROWER than '..Said'. Prove '..Said' where nothing that the law and all that it calls make is longer than what came in: it says more and counts as full. Else prove '..UptoSaid'. A law counts once. -/
mutual
def uptoBulk {H : Type} : DataW H → Nat
  | .lit (.string bytes) => bytes.length + 1
  | .lit _ => 1
  | .nil => 1
  | .ptr d => uptoBulk d + 1
  | .slice elems spare => uptoBulkAll elems + uptoBulkAll spare + 1
  | .agg parts => uptoBulkAll parts + 1
  | .iface _ d => uptoBulk d + 1
  | .map entries => uptoBulkEntries entries + 1
  | .held _ => 1
def uptoBulkAll {H : Type} : List (DataW H) → Nat
  | [] => 0
  | d :: r => uptoBulk d + uptoBulkAll r
def uptoBulkEntries {H : Type} : List (Lit × DataW H) → Nat
  | [] => 0
  | x :: r => uptoBulkEntry x + uptoBulkEntries r
def uptoBulkEntry {H : Type} : Lit × DataW H → Nat
  | (.string bytes, d) => bytes.length + uptoBulk d + 1
  | (_, d) => uptoBulk d + 1
 end
def uptoSmall : (H : Type) → List (DataW H) → Bool := fun _ ds => decide (uptoBulkAll ds ≤ 1048576)
def OpenSpec.upto (s : _root_.Go.ChangeSpec) : _root_.Go.OpenSpec := { _root_.Go.OpenSpec.ofChange s with cond := some uptoSmall }

/-- 'laws.FnExactEqualCache', WHERE WHAT IT READS IS OF BULK AT MOST 1048576: true; the input reads as it did. -/
def fnExactEqualCacheUptoRow : OpenClaim := { program := "ytdimcjafjkabmaa", sum := "90154268014befe7f29d71e4031ce550c77793fd0a7f135b38afcd43c1b0e94b", func := "loop.example/g00589/laws.FnExactEqualCache", spec := "fnExactEqualCache", unfollowed := true, recurses := true, loops := true, apart := false, narrowed := true }
def FnExactEqualCacheUptoSaid : Prop := fnExactEqualCacheUptoRow.holds Try.pinned (OpenSpec.upto fnExactEqualCacheSpec)

/-- 'laws.FnExactEqualSession', WHERE WHAT IT READS IS OF BULK AT MOST 1048576: true; the input reads as it did. -/
def fnExactEqualSessionUptoRow : OpenClaim := { program := "ytdimcjafjkabmaa", sum := "90154268014befe7f29d71e4031ce550c77793fd0a7f135b38afcd43c1b0e94b", func := "loop.example/g00589/laws.FnExactEqualSession", spec := "fnExactEqualSession", unfollowed := true, recurses := true, loops := true, apart := false, narrowed := true }
def FnExactEqualSessionUptoSaid : Prop := fnExactEqualSessionUptoRow.holds Try.pinned (OpenSpec.upto fnExactEqualSessionSpec)

/-- 'laws.FnExactNewSession', WHERE WHAT IT READS IS OF BULK AT MOST 1048576: true; the input reads as it did. -/
def fnExactNewSessionUptoRow : OpenClaim := { program := "ytdimcjafjkabmaa", sum := "90154268014befe7f29d71e4031ce550c77793fd0a7f135b38afcd43c1b0e94b", func := "loop.example/g00589/laws.FnExactNewSession", spec := "fnExactNewSession", recurses := true, apart := false, narrowed := true }
def FnExactNewSessionUptoSaid : Prop := fnExactNewSessionUptoRow.holds Try.pinned (OpenSpec.upto fnExactNewSessionSpec)

/-- 'laws.FnExactStagedType', WHERE WHAT IT READS IS OF BULK AT MOST 1048576: true; the input reads as it did. -/
def fnExactStagedTypeUptoRow : OpenClaim := { program := "ytdimcjafjkabmaa", sum := "90154268014befe7f29d71e4031ce550c77793fd0a7f135b38afcd43c1b0e94b", func := "loop.example/g00589/laws.FnExactStagedType", spec := "fnExactStagedType", recurses := true, loops := true, apart := false, narrowed := true }
def FnExactStagedTypeUptoSaid : Prop := fnExactStagedTypeUptoRow.holds Try.pinned (OpenSpec.upto fnExactStagedTypeSpec)

/-- 'laws.FnExactFunctionOf', WHERE WHAT IT READS IS OF BULK AT MOST 1048576: true; the input reads as it did. -/
def fnExactFunctionOfUptoRow : OpenClaim := { program := "ytdimcjafjkabmaa", sum := "90154268014befe7f29d71e4031ce550c77793fd0a7f135b38afcd43c1b0e94b", func := "loop.example/g00589/laws.FnExactFunctionOf", spec := "fnExactFunctionOf", unfollowed := true, recurses := true, loops := true, apart := false, narrowed := true }
def FnExactFunctionOfUptoSaid : Prop := fnExactFunctionOfUptoRow.holds Try.pinned (OpenSpec.upto fnExactFunctionOfSpec)

/-- 'laws.FnExactCallOf', WHERE WHAT IT READS IS OF BULK AT MOST 1048576: true; the input reads as it did. -/
def fnExactCallOfUptoRow : OpenClaim := { program := "ytdimcjafjkabmaa", sum := "90154268014befe7f29d71e4031ce550c77793fd0a7f135b38afcd43c1b0e94b", func := "loop.example/g00589/laws.FnExactCallOf", spec := "fnExactCallOf", unfollowed := true, recurses := true, loops := true, apart := false, narrowed := true }
def FnExactCallOfUptoSaid : Prop := fnExactCallOfUptoRow.holds Try.pinned (OpenSpec.upto fnExactCallOfSpec)

/-- 'laws.FnExactSumTerm', WHERE WHAT IT READS IS OF BULK AT MOST 1048576: true; the input reads as it did. -/
def fnExactSumTermUptoRow : OpenClaim := { program := "ytdimcjafjkabmaa", sum := "90154268014befe7f29d71e4031ce550c77793fd0a7f135b38afcd43c1b0e94b", func := "loop.example/g00589/laws.FnExactSumTerm", spec := "fnExactSumTerm", recurses := true, apart := false, narrowed := true }
def FnExactSumTermUptoSaid : Prop := fnExactSumTermUptoRow.holds Try.pinned (OpenSpec.upto fnExactSumTermSpec)

/-- 'laws.FnExactAddSums', WHERE WHAT IT READS IS OF BULK AT MOST 1048576: true; the input reads as it did. -/
def fnExactAddSumsUptoRow : OpenClaim := { program := "ytdimcjafjkabmaa", sum := "90154268014befe7f29d71e4031ce550c77793fd0a7f135b38afcd43c1b0e94b", func := "loop.example/g00589/laws.FnExactAddSums", spec := "fnExactAddSums", inPlace := ["internal/bytealg.abigen_runtime_cmpstring"], unfollowed := true, recurses := true, apart := false, narrowed := true }
def FnExactAddSumsUptoSaid : Prop := fnExactAddSumsUptoRow.holds Try.pinned (OpenSpec.upto fnExactAddSumsSpec)

/-- 'laws.FnExactLinearOf', WHERE WHAT IT READS IS OF BULK AT MOST 1048576: true; the input reads as it did. -/
def fnExactLinearOfUptoRow : OpenClaim := { program := "ytdimcjafjkabmaa", sum := "90154268014befe7f29d71e4031ce550c77793fd0a7f135b38afcd43c1b0e94b", func := "loop.example/g00589/laws.FnExactLinearOf", spec := "fnExactLinearOf", inPlace := ["internal/bytealg.abigen_runtime_cmpstring"], unfollowed := true, recurses := true, loops := true, apart := false, narrowed := true }
def FnExactLinearOfUptoSaid : Prop := fnExactLinearOfUptoRow.holds Try.pinned (OpenSpec.upto fnExactLinearOfSpec)

/-- 'laws.FnExactLiftOf', WHERE WHAT IT READS IS OF BULK AT MOST 1048576: true; the input reads as it did. -/
def fnExactLiftOfUptoRow : OpenClaim := { program := "ytdimcjafjkabmaa", sum := "90154268014befe7f29d71e4031ce550c77793fd0a7f135b38afcd43c1b0e94b", func := "loop.example/g00589/laws.FnExactLiftOf", spec := "fnExactLiftOf", unfollowed := true, recurses := true, loops := true, apart := false, narrowed := true }
def FnExactLiftOfUptoSaid : Prop := fnExactLiftOfUptoRow.holds Try.pinned (OpenSpec.upto fnExactLiftOfSpec)

/-- 'laws.FnExactCodePart', WHERE WHAT IT READS IS OF BULK AT MOST 1048576: true; the input reads as it did. -/
def fnExactCodePartUptoRow : OpenClaim := { program := "ytdimcjafjkabmaa", sum := "90154268014befe7f29d71e4031ce550c77793fd0a7f135b38afcd43c1b0e94b", func := "loop.example/g00589/laws.FnExactCodePart", spec := "fnExactCodePart", unfollowed := true, recurses := true, loops := true, apart := false, narrowed := true }
def FnExactCodePartUptoSaid : Prop := fnExactCodePartUptoRow.holds Try.pinned (OpenSpec.upto fnExactCodePartSpec)

end Rows
end Go.Proofs.Ytdimcjafjkabmaa
