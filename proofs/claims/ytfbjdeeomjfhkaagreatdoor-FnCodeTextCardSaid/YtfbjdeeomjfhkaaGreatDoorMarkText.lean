/-
  markText of the laws: the letter m and a number's digits.
-/
import Derived.Test.YtfbjdeeomjfhkaaGreatDoorBase
import Derived.Test.YtfbjdeeomjfhkaaGreatDoorRng
namespace Go.Proofs.YtfbjdeeomjfhkaaGreatDoor
open Go.RowKit

/-- The digits of k ahead of a text. -/
def mtD (k : Nat) (out : ByteArray) : ByteArray := if _h : k = 0 then out else mtD (k / 10) (⟨#[48 + UInt8.ofNat (k % 10)]⟩ ++ out)
termination_by k
decreasing_by omega
def mtF (k : Int) : ByteArray := if k ≤ 0 then ⟨#[109, 48]⟩ else ⟨#[109]⟩ ++ mtD k.toNat ⟨#[]⟩

theorem conv_one (W : World) (x : Int) : (convert 22 9 (.slice (some ⟨W.heap.size, 0, none⟩) 1 1)).run Tryz.prog (W.alloc (.cells #[.int .u8 x] 5)) =
    .ok (.string ⟨#[UInt8.ofNat x.toNat]⟩) (W.alloc (.cells #[.int .u8 x] 5)) := by
  rw [run_convert_bytes_string _ 22 9 5 _ 1 1 Tryz.underlying22 Tryz.underlying5 Tryz.underlying9]
  rw [run_bytesToString _ _ 1 1 [x] (by simp [loadCells, go_sem])]
  rfl

end Go.Proofs.YtfbjdeeomjfhkaaGreatDoor
