/-
  Numbers as texts, of both sides.
-/
import Derived.Test.YtfbjdeeomjfhkaaGreatDoorJoin
import Derived.Test.YtfbjdeeomjfhkaaGreatDoorJoi
import Derived.Lib.ItoaNum
import Derived.Stop.LaidErr
namespace Go.Proofs.YtfbjdeeomjfhkaaGreatDoor
open Go.RowKit
set_option linter.unusedVariables false
set_option linter.unusedSimpArgs false
set_option maxRecDepth 20000
def numL (n : Nat) : ByteArray := ⟨(Lib.decDigits n).toArray⟩
theorem numL_zero : numL 0 = ⟨#[48]⟩ := by rw [numL, Lib.decDigits_one (by omega)]; rfl
theorem dd_step (m : Nat) (h : 0 < m) (out : List UInt8) : (if m = 0 then [] else Lib.decDigits m) ++ out = (if m / 10 = 0 then [] else Lib.decDigits (m / 10)) ++ (UInt8.ofNat (48 + m % 10) :: out) := by
  rw [if_neg (by omega)]
  by_cases h1 : m < 10
  · rw [Lib.decDigits_one h1, if_pos (by omega), Nat.mod_eq_of_lt h1]; rfl
  · rw [Lib.decDigits, dif_neg h1, if_neg (by omega), List.append_assoc]; rfl
set_option maxRecDepth 100000 in
set_option maxHeartbeats 4000000 in
theorem spec_FormatInt (n : Nat) (w : World) (hn : n ≤ 1000000000) :
    Calls Tryz.prog 34 #[.int .i64 n] w fun e w' => e = .returned (.string (numL n)) ∧ Below w.heap.size w w' := by
  by_cases h0 : n = 0
  · subst h0
    go_enter Tryz.func34, Tryz.ntmps34
    go_wp2
    go_ret
    exact ⟨by rw [numL_zero]; rfl, Below.refl _ _⟩
  have h0i : ¬ (n : Int) = 0 := by omega
  have hlt : ¬ (n : Int) < 0 := by omega
  go_enter Tryz.func34, Tryz.ntmps34
  go_wp2
  go_loopw [0, 4] (fun i out wr => ∃ (m : Nat) (l : List UInt8), m ≤ n ∧ i = .int .i64 m ∧ out = .string ⟨l.toArray⟩ ∧ Hid (Lib.decDigits n = (if m = 0 then [] else Lib.decDigits m) ++ l) ∧ l.length ≤ n - m ∧ Below w.heap.size w wr) (fun i _ _ => (intOf i).toNat)
  case atStart =>
    refine ⟨n, [], Nat.le_refl _, rfl, rfl, ?_, by simp, Below.refl _ _⟩
    exact Lib.hid (by rw [if_neg h0, List.append_nil])
  case round =>
    obtain ⟨m, l, hm, rfl, rfl, hl, hll, hb⟩ := hrel
    by_cases hz : m = 0
    · subst hz
      have e := hl.out
      rw [if_pos rfl, List.nil_append] at e
      clear hl
      go_wp2
      go_ret
      exact ⟨by rw [numL, e]; rfl, hb⟩
    · have hzi : ¬ (m : Int) = 0 := by omega
      have hcv : (convert 22 9 (.slice (some ⟨wr.heap.size, 0, none⟩) 1 1)).run Tryz.prog (wr.alloc (.cells #[.int .u8 (48 + (m : Int) % 10)] 5)) = .ok (.string ⟨[UInt8.ofNat (48 + m % 10)].toArray⟩) (wr.alloc (.cells #[.int .u8 (48 + (m : Int) % 10)] 5)) := by
        refine run_convert_bytes_back (P := Tryz.prog) _ 22 9 5 ⟨wr.heap.size, 0, none⟩ 1 [UInt8.ofNat (48 + m % 10)] (by kernel_rfl) (by kernel_rfl) (by kernel_rfl) (fun j hj => ?_)
        obtain rfl : j = 0 := by simpa using hj
        rw [add_addr, Nat.add_zero, World.cell?_alloc_at _ _ _ _ rfl]
        have h256 : (48 + m % 10) % 256 = 48 + m % 10 := by omega
        simp [UInt8.toNat_ofNat', h256]
      have hbs := hb.size
      have hst := dd_step m (by omega) l
      go_wp2
      refine ⟨⟨m / 10, UInt8.ofNat (48 + m % 10) :: l, by omega, by simp, ?_, Lib.hid (hl.out.trans hst), ?_, hb.alloc hbs _⟩, ?_⟩
      · have e1 : (48 : UInt8) + UInt8.ofNat (m % 10) = UInt8.ofNat (48 + m % 10) := by simp [UInt8.ofNat_add]
        rw [e1]
        congr 1
      · rw [List.length_cons]; omega
      · simp only [intOf]; omega
/-- What the row's condition gives. -/
theorem pow_of_laid {W : World} {r : List (String × DataW Unit)} (h : laidMet Tryz.prog (("math/bits.deBruijn32tab", Rows.laid_math_bits_deBruijn32tab) :: ("math/bits.deBruijn64tab", Rows.laid_math_bits_deBruijn64tab) :: ("internal/strconv.uint64pow10", Rows.laid_internal_strconv_uint64pow10) :: r) W) : GPow W ∧ 1 < W.heap.size := by
  have h3 := h.tail.tail
  have ht : Lib.TabIs Tryz.prog W "internal/strconv.uint64pow10" .u64 Lib.pow10Tab :=
    Lib.tabIs_of_head (P := Tryz.prog) (g := 1) (t := 106) (e := 88) (n := 20) (by kernel_rfl) (by kernel_rfl) (by kernel_rfl) (by kernel_rfl) (by kernel_rfl) (by kernel_rfl) (show laidMet Tryz.prog (("internal/strconv.uint64pow10", Lib.tabData .u64 Lib.pow10Tab) :: r) W from h3)
  refine ⟨ht, ?_⟩
  have hg : (Tryz.prog).globalNamed "internal/strconv.uint64pow10" = some 1 := by kernel_rfl
  unfold Lib.TabIs World.var? at ht
  rw [hg, Option.bind_some] at ht
  by_cases hlt : 1 < W.heap.size
  · exact hlt
  · rw [Array.getElem?_eq_none (Nat.le_of_not_lt hlt)] at ht
    cases ht
theorem fmt_below {w : World} {k : Nat} {os : Array Obj} : Below w.heap.size w (Sort.grow (w.drewN k) os) :=
  ⟨rfl, rfl, rfl, by show w.heap.size ≤ (w.heap ++ os).size; rw [Array.size_append]; omega, fun j hj => by
    show (w.heap ++ os)[j]? = _
    rw [Array.getElem?_append_left hj]⟩
theorem con_Itoa (n : Int) (h : 0 ≤ n ∧ n ≤ 1000000) : Con Tryz.prog 52 [.one (.int n)] [.one (.str (numL n.toNat))] := by
  refine con_U1g ⟨_, rfl, by kernel_rfl, by kernel_rfl⟩ ?_
  intro w us hg hu
  obtain ⟨v, r, rfl, h1, h2⟩ := rpd_c hu
  obtain rfl := rpd_n h2
  obtain rfl := rpd_iint h1
  refine (Tryz.YtfbjdeeomjfhkaaGreatDoorstrconv_Itoa n (by omega) (by omega) w hg.2.1).mono ?_
  rintro e w' ⟨rfl, k, os, rfl⟩
  exact ⟨_, rfl, by rw [show Lib.itoa n = Lib.decDigits n.toNat by rw [Lib.itoa, if_neg (by omega)]]; exact fr_str _ _ _, fmt_below⟩
end Go.Proofs.YtfbjdeeomjfhkaaGreatDoor
