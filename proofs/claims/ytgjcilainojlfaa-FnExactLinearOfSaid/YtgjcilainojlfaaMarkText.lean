/-
  markText of the laws: the letter m and a number's digits.
-/
import Derived.Test.YtgjcilainojlfaaBase
import Derived.Test.YtgjcilainojlfaaRng
namespace Go.Proofs.Ytgjcilainojlfaa
open Go.RowKit

/-- The digits of k ahead of a text. -/
def mtD (k : Nat) (out : ByteArray) : ByteArray := if _h : k = 0 then out else mtD (k / 10) (⟨#[48 + UInt8.ofNat (k % 10)]⟩ ++ out)
termination_by k
decreasing_by omega
def mtF (k : Int) : ByteArray := if k ≤ 0 then ⟨#[109, 48]⟩ else ⟨#[109]⟩ ++ mtD k.toNat ⟨#[]⟩

theorem conv_one (W : World) (x : Int) : (convert 151 9 (.slice (some ⟨W.heap.size, 0, none⟩) 1 1)).run Try.prog (W.alloc (.cells #[.int .u8 x] 5)) =
    .ok (.string ⟨#[UInt8.ofNat x.toNat]⟩) (W.alloc (.cells #[.int .u8 x] 5)) := by
  rw [run_convert_bytes_string _ 151 9 5 _ 1 1 Try.underlying151 Try.underlying5 Try.underlying9]
  rw [run_bytesToString _ _ 1 1 [x] (by simp [loadCells, go_sem])]
  rfl

set_option maxRecDepth 100000 in
set_option maxHeartbeats 1000000 in
theorem laws_markText (k : Int) (w : World) (hk : k ≤ 140737488351232) :
    Calls Try.prog 68 #[.int .i64 k] w fun e w' => e = .returned (.string (mtF k)) ∧ Below w.heap.size w w' := by
  by_cases h0 : k ≤ 0
  · have HE := Lib.hid (show mtF k = ⟨#[109, 48]⟩ by unfold mtF; rw [if_pos h0])
    go_enter Try.func68, Try.ntmps68
    go_wp2
    go_ret
    exact ⟨by rw [HE.out]; rfl, Below.refl _ _⟩
  · have HE := Lib.hid (show mtF k = ⟨#[109]⟩ ++ mtD k.toNat ⟨#[]⟩ by unfold mtF; rw [if_neg h0])
    have hcv := conv_one
    have hd0 : decide (k ≤ 0) = false := by simpa using h0
    go_enter Try.func68, Try.ntmps68
    go_wp2
    go_loopw [0, 3] (fun q out wr => ∃ (m : Nat) (s : ByteArray), (m : Int) ≤ k ∧ q = .int .i64 m ∧ out = .string s ∧ s.size + m ≤ k.toNat ∧ Hid (mtD m s = mtD k.toNat ⟨#[]⟩) ∧ Below w.heap.size w wr) (fun q _ _ => (intOf q).toNat)
    case atStart => exact ⟨k.toNat, ⟨#[]⟩, by omega, by congr 1; omega, rfl, by show 0 + _ ≤ _; omega, rfl, Below.refl _ _⟩
    case round =>
      obtain ⟨m, s, hm, rfl, rfl, hsz, HM, hb⟩ := hrel
      have hsz2 : s.size ≤ 140737488351232 := by omega
      by_cases hz : 0 < m
      · have hq : Hid (mtD (m / 10) (⟨#[48 + UInt8.ofNat (m % 10)]⟩ ++ s) = mtD k.toNat ⟨#[]⟩) := Lib.hid (by
          rw [← HM.out]
          conv => rhs; unfold mtD
          rw [dif_neg (by omega)])
        have hsz3 : Hid ((⟨#[48 + UInt8.ofNat (m % 10)]⟩ ++ s : ByteArray).size + m / 10 ≤ k.toNat) := Lib.hid (by
          rw [ByteArray.size_append]; show 1 + _ + _ ≤ _; omega)
        go_wp2
        go_roundw
        case rel => exact ⟨m / 10, _, by omega, by go_num, rfl, hsz3.out, hq, hb.alloc hb.size _⟩
        case measure => simp [intOf]; omega
      · have HZ := Lib.hid (show mtD k.toNat ⟨#[]⟩ = s by rw [← HM.out, show m = 0 by omega, mtD]; rfl)
        go_wp2
        go_ret
        exact ⟨by rw [HE.out, HZ.out]; rfl, hb⟩
end Go.Proofs.Ytgjcilainojlfaa
