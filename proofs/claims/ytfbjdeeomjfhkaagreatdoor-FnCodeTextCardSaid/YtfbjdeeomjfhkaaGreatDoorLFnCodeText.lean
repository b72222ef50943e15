/-
  The statement of laws.FnCodeText, from its walk: for every input the law returns true and leaves its arguments as they read.
-/
import Derived.Test.YtfbjdeeomjfhkaaGreatDoorRows
import Derived.WalkKit
import Derived.ProofKit
import Derived.OpenShut
import Derived.ShutString
import Derived.ChangeOld
import Derived.Below
import Derived.Test.YtfbjdeeomjfhkaaGreatDoorCards
import Derived.Test.YtfbjdeeomjfhkaaGreatDoorTie
import Derived.JoinedOf
import Derived.LaidLaws
import Derived.Stop.LaidErr
import Derived.SevenTiedAt
import Derived.Test.YtfbjdeeomjfhkaaGreatDoorVFnCt
import Derived.Test.YtfbjdeeomjfhkaaGreatDoorPgl
namespace Go.Proofs.YtfbjdeeomjfhkaaGreatDoor.fnCodeText
open Go.ChangeShapes Go.WideShapes Go.ChangeAt Go.RowKit
open Go.ChangeMaps (open_string shut_string)
set_option linter.unusedVariables false
set_option linter.unusedSimpArgs false
theorem own : ownKnob Tryz.prog.godebug = none := by kernel_rfl
theorem laidOut : laidOutB Tryz.prog = true := by kernel_rfl
/-- The cells of a table. -/
def cellsOf : DataW Unit → Array Value
  | .agg l => (l.flatMap fun | .lit (.int k n) => [Value.int k n] | .agg m => m.map (fun | .lit (.int k n) => Value.int k n | _ => undef) | _ => []).toArray
  | _ => #[]
/-- The text of an error. -/
def textOf : DataW Unit → ByteArray
  | .iface _ (.ptr (.agg [.lit (.string l)])) => ⟨l.toArray⟩
  | _ => ByteArray.empty
noncomputable def low : Nat := (World.holding Tryz.prog default ⟨#[], #[], []⟩).heap.size
/-- A world that meets the row's condition. -/
noncomputable def laidWorld (os : Os) : World := { World.holding Tryz.prog os ⟨#[.cells #[.string (textOf Rows.laid_strconv_ErrRange)] 124, .cells #[.string (textOf Rows.laid_strconv_ErrSyntax)] 124], #[], []⟩ with heap := ((((((((World.holding Tryz.prog os ⟨#[.cells #[.string (textOf Rows.laid_strconv_ErrRange)] 124, .cells #[.string (textOf Rows.laid_strconv_ErrSyntax)] 124], #[], []⟩).heap.modify 3 fun | .cells _ t frozen => .cells #[.iface 122 (.pointer (some ⟨low + 0, 0, none⟩))] t frozen | o => o).modify 2 fun | .cells _ t frozen => .cells #[.iface 122 (.pointer (some ⟨low + 1, 0, none⟩))] t frozen | o => o).modify 6 fun | .cells _ t frozen => .cells (cellsOf Rows.laid_math_bits_deBruijn32tab) t frozen | o => o).modify 7 fun | .cells _ t frozen => .cells (cellsOf Rows.laid_math_bits_deBruijn64tab) t frozen | o => o).modify 1 fun | .cells _ t frozen => .cells (cellsOf Rows.laid_internal_strconv_uint64pow10) t frozen | o => o).modify 5 fun | .cells _ t frozen => .cells (cellsOf Rows.laid_unicode_utf8_acceptRanges) t frozen | o => o).modify 4 fun | .cells _ t frozen => .cells (cellsOf Rows.laid_unicode_utf8_first) t frozen | o => o) }
theorem laid_met (os : Os) (args : Array Value) : laidMet Tryz.prog Rows.fnCodeTextRow.laid ((laidWorld os).forCall (fun _ _ => 0) ⟨#[], args, []⟩).memory := laidMet_of_run' 64 (by kernel_rfl) (by kernel_rfl)
set_option maxRecDepth 100000 in
theorem lifted (os : Os) (started : os.Started) (H : Type) (enc : TypeId × Value → H) :
    ReturnsInHanded {} Tryz.checked os 3 .any (fun w args => (Rows.fnCodeTextSpec.pre enc Tryz.prog Tryz.f3 Rows.fnCodeTextRow.domain false w args ∧ laidMet Tryz.prog Rows.fnCodeTextRow.laid w) ∧ sizedMet enc Tryz.prog Tryz.f3 (OpenSpec.ofChange Rows.fnCodeTextSpec) false w args) (Rows.fnCodeTextSpec.post enc Tryz.prog Tryz.f3 false true false false) := by
  refine returnsInHanded_of_change_andS (C := Tryz.checked) (X := fun w _ => laidMet Tryz.prog Rows.fnCodeTextRow.laid w) (fun _ _ _ hh h => h.of_heap hh) own started (by kernel_rfl) Tryz.func3
    (ChangeSpec.witness_at (enc := enc) (C := Tryz.checked) (os := os) (X := fun w _ => laidMet Tryz.prog Rows.fnCodeTextRow.laid w) false (laidWorld os) #[.slice none 0 0] 12 rfl (by kernel_rfl) (by kernel_rfl) (by kernel_rfl) (by kernel_rfl) (by kernel_rfl) (laid_met os _)) ?_
  intro W base args ds gs before hval0 hW hcnd _ hsh hL _
  have hg : GI W := GI_of_laid5 hL (hL.tail.tail.tail.tail) (hL.tail.tail.tail.tail.tail) hsh
  have hval : ∀ (j : Nat) t v, Tryz.f3.params[j]? = some t → args[j]? = some v → Value.okWide Tryz.prog W .any base t v := hval0
  have hW' := hW
  obtain ⟨p, q, hA0, hV, rfl, hfz, hnd⟩ := hW
  have hA : DataW.TrodAll enc Tryz.prog W 0 (fun _ => true) true Tryz.f3.params.toList args.toList ds p := hA0
  rw [Tryz.params3] at hA hval
  obtain ⟨v0, vs0, d0, ds0, p0, q0, hargs, rfl, rfl, h0, r0⟩ := trodAll_cons hA
  obtain ⟨rfl, rfl, rfl⟩ := trodAll_nil r0
  obtain rfl : args = #[v0] := by cases args; simp_all
  obtain ⟨rfl, rfl⟩ := trodVars_none hV
  have k0 := h0
  have lt0 : ∀ x ∈ p0, x.block < W.heap.size := by obtain ⟨m, hm⟩ := k0; exact DataW.trod_lt m _ _ _ hm
  obtain ⟨fu0, hf0⟩ := h0
  obtain ⟨ad0, le0, ca0, rfl⟩ := okWide_slice Tryz.underlying22 (hval 0 22 v0 rfl rfl)
  have w0 : BArg W (.slice ad0 le0 ca0) := barg hf0
  clear hA0 hval0
  refine (top_FnCodeText W hg _ w0).mono fun e W' ⟨he, bel⟩ => ?_
  subst he
  exact ⟨_, rfl, _, _, _, [], _, [], hW', trodAll_mk1 (shut_bool Tryz.underlying4 _), (trodAll_cons_mk (Below.trod laidOut (by kernel_rfl) (of_decide_eq_true (by kernel_rfl)) k0 bel lt0) trodAll_mk0), rfl, bel.frame _, fun h => by cases h⟩
theorem over : Rows.fnCodeTextRow.holds Tryz.pinned (OpenSpec.ofChange Rows.fnCodeTextSpec) :=
  OpenClaim.holds_of_wide 3 Tryz.f3 rfl rfl rfl rfl rfl rfl rfl ⟨rfl, rfl, rfl, rfl, rfl⟩ rfl rfl rfl rfl rfl (by kernel_rfl) Tryz.func3 (by kernel_rfl)
    (of_decide_eq_true (by kernel_rfl)) (by unfold Func.isWrapper; first | (rw [if_pos (by decide +kernel)]; kernel_rfl) | (rw [if_neg (by decide +kernel)]; exact ⟨rfl, rfl⟩))
    (fun os started H enc _ => lifted os started H enc)
theorem proved : Rows.FnCodeTextCardSaid :=
  Claim7.holds_tied_plain_at .later [] [.data, .data, .data, .data, .sentinel, .sentinel, .pinned] true (true, "85163d8baac663ca3f6ba335ba777b2ef4ba1e8f7e8f0d2c89b56919d3ea7d16") true over (fun _ h => by cases h) (by kernel_rfl) (fun _ h => by cases h) fnCodeText_row_tie rfl ⟨rfl, rfl⟩ (by kernel_rfl) rfl
    (fun f fn hf hfn => by
      obtain rfl : f = 3 := Option.some.inj ((show Tryz.prog.funcNamed "loop.example/g00589/laws.FnCodeText" = some 3 by kernel_rfl).symm.trans hf) |>.symm
      obtain rfl : fn = Tryz.f3 := (Option.some.inj (Tryz.func3.symm.trans hfn)).symm
      refine ⟨by kernel_rfl, fun j t ht => ?_⟩
      rw [Tryz.params3] at ht
      have h0 : ∀ t ∈ Tryz.f3.params.toList, Tryz.prog.wantsStandIn t = false := by
        rw [Tryz.params3]; simp only [List.mem_cons, List.not_mem_nil, or_false, forall_eq_or_imp, forall_eq]; kernel_rfl
      exact h0 t (by rw [Tryz.params3]; exact List.mem_of_getElem? (by simpa using ht)))
    (by kernel_rfl)
#print axioms proved
end Go.Proofs.YtfbjdeeomjfhkaaGreatDoor.fnCodeText
