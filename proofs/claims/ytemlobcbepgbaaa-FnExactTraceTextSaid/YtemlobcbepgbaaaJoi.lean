/-
  strings.Join: what the kit's shelf says of it, at this program (its two printers wrote these lines).
-/
import Derived.Shelf.Strings.Builder1
import Derived.Shelf.Strings.Builder2
import Derived.Shelf.Strings.OnBuilder
import Derived.Test.YtemlobcbepgbaaaProg
namespace Go.Proofs
open Go.Shelf
set_option linter.unusedVariables false
def Try.YtemlobcbepgbaaaJ156_ren : Go.Shelf.Ren := ⟨fun | 156 => 190 | 165 => 232 | 166 => 233 | 169 => 234 | 240 => 252 | 241 => 253 | 276 => 257 | 277 => 258 | n => n, fun | 31 => 103 | 9 => 9 | 3 => 3 | 4 => 4 | 0 => 0 | 20 => 20 | 72 => 236 | 76 => 240 | 70 => 234 | 37 => 211 | 75 => 239 | 127 => 251 | 164 => 255 | 5 => 5 | 80 => 242 | n => n, fun | n => n⟩
theorem Try.YtemlobcbepgbaaaJ156 : Go.Proofs.Lays.n156 Try.prog Try.YtemlobcbepgbaaaJ156_ren := {
  mixed := by kernel_rfl
  f156 := Try.func190.trans (congrArg some (by kernel_rfl))
  f165 := Try.func232.trans (congrArg some (by kernel_rfl))
  f166 := Try.func233.trans (congrArg some (by kernel_rfl))
  f169 := Try.func234.trans (congrArg some (by kernel_rfl))
  f240 := Try.func252.trans (congrArg some (by kernel_rfl))
  f241 := Try.func253.trans (congrArg some (by kernel_rfl))
  f276 := Try.func257.trans (congrArg some (by kernel_rfl))
  f277 := Try.func258.trans (congrArg some (by kernel_rfl))
  t0 := Try.underlying0
  a0 := Try.isAgg0
  z0 := Try.sizeOf0
  v0 := Try.zeroValue0
  t3 := Try.underlying3
  a3 := Try.isAgg3
  z3 := Try.sizeOf3
  v3 := Try.zeroValue3
  t4 := Try.underlying4
  a4 := Try.isAgg4
  z4 := Try.sizeOf4
  v4 := Try.zeroValue4
  t9 := Try.underlying9
  a9 := Try.isAgg9
  z9 := Try.sizeOf9
  v9 := Try.zeroValue9
  t20 := Try.underlying20
  a20 := Try.isAgg20
  z20 := Try.sizeOf20
  v20 := Try.zeroValue20
  t31 := Try.underlying103
  a31 := Try.isAgg103
  z31 := Try.sizeOf103
  v31 := Try.zeroValue103
  t37 := Try.underlying211
  a37 := Try.isAgg211
  z37 := Try.sizeOf211
  v37 := Try.zeroValue211
  t70 := Try.underlying234
  a70 := Try.isAgg234
  z70 := Try.sizeOf234
  v70 := Try.zeroValue234
  t72 := Try.underlying236
  a72 := Try.isAgg236
  z72 := Try.sizeOf236
  v72 := Try.zeroValue236
  t75 := Try.underlying239
  a75 := Try.isAgg239
  z75 := Try.sizeOf239
  v75 := Try.zeroValue239
  t76 := Try.underlying240
  a76 := Try.isAgg240
  z76 := Try.sizeOf240
  v76 := Try.zeroValue240
  t127 := Try.underlying251
  a127 := Try.isAgg251
  z127 := Try.sizeOf251
  v127 := Try.zeroValue251
  t164 := Try.underlying255
  a164 := Try.isAgg255
  z164 := Try.sizeOf255
  v164 := Try.zeroValue255 }
theorem Try.YtemlobcbepgbaaaBE156 : Builder.Extra Try.prog Try.YtemlobcbepgbaaaJ156_ren := {
  sizeBuilder := by kernel_rfl
  liesBuilder := by kernel_rfl
  t5 := Try.underlying5
  a5 := Try.isAgg5
  z5 := Try.sizeOf5
  v5 := Try.zeroValue5
  infoByte := by kernel_rfl
  cellsByte := by kernel_rfl
  sizeByte := by kernel_rfl
  neB5 := by decide }
open Go.RowKit in
theorem Try.Ytemlobcbepgbaaastrings_Join_none (a : Option Addr) (c : Nat) (sep : ByteArray) (w : World) :
    Calls Try.prog 190 #[.slice a 0 c, .string sep] w fun e w' => e = .returned (.string ⟨#[]⟩) ∧ w' = w := Any.strings_Join_none Try.YtemlobcbepgbaaaJ156 Try.YtemlobcbepgbaaaBE156 a c sep w
open Go.RowKit in
theorem Try.Ytemlobcbepgbaaastrings_Join (bk o c : Nat) (xs : List ByteArray) (sep : ByteArray) (w : World) (hcells : ∀ (j : Nat) x, xs[j]? = some x → w.cell? ⟨bk, o + j, none⟩ = some (.string x)) (hbk : bk < w.heap.size) (hN : xs.length ≤ 140737488355328) (hcap : xs.length ≤ c) (hlen : (Lib.join (xs.map (·.data.toList)) sep.data.toList).length ≤ 140737488355328) :
    Calls Try.prog 190 #[.slice (some ⟨bk, o, none⟩) xs.length c, .string sep] w fun e w' => e = .returned (.string ⟨(Lib.join (xs.map (·.data.toList)) sep.data.toList).toArray⟩) ∧ Below w.heap.size w w' := Any.strings_Join Try.YtemlobcbepgbaaaJ156 Try.YtemlobcbepgbaaaBE156 bk o c xs sep w hcells hbk hN hcap hlen

end Go.Proofs
