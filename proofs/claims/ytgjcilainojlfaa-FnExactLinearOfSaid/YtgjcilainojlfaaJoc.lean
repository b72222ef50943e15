/-
  What the kit's shelf says of library functions, at this program (its two printers wrote these lines).
-/
import Derived.Shelf.Small.Strs
import Derived.Ground.Names2Prog
import Derived.Shelf.Slices.Clone
import Derived.Ground.SlgnProg
import Derived.Shelf.SlicesE.Clone
import Derived.Test.YtgjcilainojlfaaProg
namespace Go.Proofs
open Go.Shelf
set_option linter.unusedVariables false
def Try.Ytgjcilainojlfaalays106_ren : Go.Shelf.Ren := ⟨fun | 106 => 116 | 213 => 157 | 265 => 171 | n => n, fun | 9 => 9 | 3 => 3 | n => n, fun | n => n⟩
theorem Try.Ytgjcilainojlfaalays106 : Go.Proofs.Lays.n106 Try.prog Try.Ytgjcilainojlfaalays106_ren := {
  mixed := by kernel_rfl
  f106 := Try.func116.trans (congrArg some (by kernel_rfl))
  f213 := Try.func157.trans (congrArg some (by kernel_rfl))
  f265 := Try.func171.trans (congrArg some (by kernel_rfl))
  t3 := Try.underlying3
  a3 := Try.isAgg3
  z3 := Try.sizeOf3
  v3 := Try.zeroValue3
  t9 := Try.underlying9
  a9 := Try.isAgg9
  z9 := Try.sizeOf9
  v9 := Try.zeroValue9 }
open Go.RowKit Go.Lib in
theorem Try.Ytgjcilainojlfaastrings_Compare (a b : ByteArray) (w : World) :
    Calls Try.prog 116 #[.string a, .string b] w fun e w' => e = .returned (.int .i64 (Lib.compareBytes a.data.toList b.data.toList)) ∧ w' = w := Any.strings_Compare Try.Ytgjcilainojlfaalays106 a b w
end Go.Proofs
