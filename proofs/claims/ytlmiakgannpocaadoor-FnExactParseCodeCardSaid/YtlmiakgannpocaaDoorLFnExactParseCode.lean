/-
  The statement of laws.FnExactParseCode, from its walk: for every input the law returns true and leaves its arguments as they read.
-/
import Derived.Test.YtlmiakgannpocaaDoorRows
import Derived.WalkKit
import Derived.ProofKit
import Derived.OpenShut
import Derived.ShutString
import Derived.ChangeOld
import Derived.Below
import Derived.Test.YtlmiakgannpocaaDoorCards
import Derived.Test.YtlmiakgannpocaaDoorTie
import Derived.JoinedOf
import Derived.LaidLaws
import Derived.Stop.LaidErr
import Derived.SevenTiedAt
import Derived.Test.YtlmiakgannpocaaDoorVParseCode
import Derived.Test.YtlmiakgannpocaaDoorPgl
namespace Go.Proofs.YtlmiakgannpocaaDoor.fnExactParseCode
open Go.ChangeShapes Go.WideShapes Go.ChangeAt Go.RowKit
open Go.ChangeMaps (open_string shut_string)
set_option linter.unusedVariables false
set_option linter.unusedSimpArgs false
theorem own : ownKnob Tryd.prog.godebug = none := by kernel_rfl
/-- The cells of a table. -/
def cellsOf : DataW Unit → Array Value
  | .agg l => (l.flatMap fun | .lit (.int k n) => [Value.int k n] | .agg m => m.map (fun | .lit (.int k n) => Value.int k n | _ => undef) | _ => []).toArray
  | _ => #[]
/-- The text of an error. -/
def textOf : DataW Unit → ByteArray
  | .iface _ (.ptr (.agg [.lit (.string l)])) => ⟨l.toArray⟩
  | _ => ByteArray.empty
noncomputable def low : Nat := (World.holding Tryd.prog default ⟨#[], #[], []⟩).heap.size
/-- A world that meets the row's condition. -/
noncomputable def laidWorld (os : Os) : World := { World.holding Tryd.prog os ⟨#[.cells #[.string (textOf Rows.laid_strconv_ErrRange)] 94, .cells #[.string (textOf Rows.laid_strconv_ErrSyntax)] 94], #[], []⟩ with heap := ((((((((World.holding Tryd.prog os ⟨#[.cells #[.string (textOf Rows.laid_strconv_ErrRange)] 94, .cells #[.string (textOf Rows.laid_strconv_ErrSyntax)] 94], #[], []⟩).heap.modify 2 fun | .cells _ t frozen => .cells #[.iface 92 (.pointer (some ⟨low + 0, 0, none⟩))] t frozen | o => o).modify 1 fun | .cells _ t frozen => .cells #[.iface 92 (.pointer (some ⟨low + 1, 0, none⟩))] t frozen | o => o).modify 6 fun | .cells _ t frozen => .cells (cellsOf Rows.laid_math_bits_deBruijn32tab) t frozen | o => o).modify 7 fun | .cells _ t frozen => .cells (cellsOf Rows.laid_math_bits_deBruijn64tab) t frozen | o => o).modify 5 fun | .cells _ t frozen => .cells (cellsOf Rows.laid_internal_strconv_uint64pow10) t frozen | o => o).modify 4 fun | .cells _ t frozen => .cells (cellsOf Rows.laid_unicode_utf8_acceptRanges) t frozen | o => o).modify 3 fun | .cells _ t frozen => .cells (cellsOf Rows.laid_unicode_utf8_first) t frozen | o => o) }
theorem laid_met (os : Os) (args : Array Value) : laidMet Tryd.prog Rows.fnExactParseCodeRow.laid ((laidWorld os).forCall (fun _ _ => 0) ⟨#[], args, []⟩).memory := laidMet_of_run' 64 (by kernel_rfl) (by kernel_rfl)
set_option maxRecDepth 100000 in
theorem lifted (os : Os) (started : os.Started) (H : Type) (enc : TypeId × Value → H) :
    ReturnsInHanded {} Tryd.checked os 4 .any (fun w args => (Rows.fnExactParseCodeSpec.pre enc Tryd.prog Tryd.f4 Rows.fnExactParseCodeRow.domain false w args ∧ laidMet Tryd.prog Rows.fnExactParseCodeRow.laid w) ∧ sizedMet enc Tryd.prog Tryd.f4 (OpenSpec.ofChange Rows.fnExactParseCodeSpec) false w args) (Rows.fnExactParseCodeSpec.post enc Tryd.prog Tryd.f4 false true false false) := by
  refine returnsInHanded_of_change_andS (C := Tryd.checked) (X := fun w _ => laidMet Tryd.prog Rows.fnExactParseCodeRow.laid w) (fun _ _ _ hh h => h.of_heap hh) own started (by kernel_rfl) Tryd.func4
    (ChangeSpec.witness_at (enc := enc) (C := Tryd.checked) (os := os) (X := fun w _ => laidMet Tryd.prog Rows.fnExactParseCodeRow.laid w) false (laidWorld os) #[.string ByteArray.empty] 12 rfl (by kernel_rfl) (by kernel_rfl) (by kernel_rfl) (by kernel_rfl) (by kernel_rfl) (laid_met os _)) ?_
  intro W base args ds gs before hval0 hW hcnd _ hsh hL _
  have hg : GI W := GI_of_laid5 hL (hL.tail.tail.tail.tail) (hL.tail.tail.tail.tail.tail) hsh
  have hval : ∀ (j : Nat) t v, Tryd.f4.params[j]? = some t → args[j]? = some v → Value.okWide Tryd.prog W .any base t v := hval0
  have hW' := hW
  obtain ⟨p, q, hA0, hV, rfl, hfz, hnd⟩ := hW
  have hA : DataW.TrodAll enc Tryd.prog W 0 (fun _ => true) true Tryd.f4.params.toList args.toList ds p := hA0
  rw [Tryd.params4] at hA hval
  obtain ⟨v0, vs0, d0, ds0, p0, q0, hargs, rfl, rfl, h0, r0⟩ := trodAll_cons hA
  obtain ⟨rfl, rfl, rfl⟩ := trodAll_nil r0
  obtain rfl : args = #[v0] := by cases args; simp_all
  obtain ⟨rfl, rfl⟩ := trodVars_none hV
  obtain ⟨a0, rfl, rfl, rfl, w0⟩ := open_string Tryd.underlying9 (hval 0 9 v0 rfl rfl) h0
  clear hA0 hval0
  refine (top_FnExactParseCode W hg a0 w0).mono fun e W' ⟨he, bel⟩ => ?_
  subst he
  exact ⟨_, rfl, _, _, _, [], [], [], hW', trodAll_mk1 (shut_bool Tryd.underlying4 _), (trodAll_cons_mk (shut_string Tryd.underlying9 w0) trodAll_mk0), rfl, bel.frame _, fun h => by cases h⟩
theorem over : Rows.fnExactParseCodeRow.holds Tryd.pinned (OpenSpec.ofChange Rows.fnExactParseCodeSpec) :=
  OpenClaim.holds_of_wide 4 Tryd.f4 rfl rfl rfl rfl rfl rfl rfl ⟨rfl, rfl, rfl, rfl, rfl⟩ rfl rfl rfl rfl rfl (by kernel_rfl) Tryd.func4 (by kernel_rfl)
    (of_decide_eq_true (by kernel_rfl)) (by unfold Func.isWrapper; first | (rw [if_pos (by decide +kernel)]; kernel_rfl) | (rw [if_neg (by decide +kernel)]; exact ⟨rfl, rfl⟩))
    (fun os started H enc _ => lifted os started H enc)
theorem proved : Rows.FnExactParseCodeCardSaid :=
  Claim7.holds_tied_plain_at .later [] [.data, .data, .data, .data, .sentinel, .sentinel, .pinned] true (true, "213ce43ba40186bc66a1dd1a36bbd855b52e4e48b55e81b13a22bb4e07b1059a") true over (fun _ h => by cases h) (by kernel_rfl) (fun _ h => by cases h) fnExactParseCode_row_tie rfl ⟨rfl, rfl⟩ (by kernel_rfl) rfl
    (fun f fn hf hfn => by
      obtain rfl : f = 4 := Option.some.inj ((show Tryd.prog.funcNamed "loop.example/g00589/laws.FnExactParseCode" = some 4 by kernel_rfl).symm.trans hf) |>.symm
      obtain rfl : fn = Tryd.f4 := (Option.some.inj (Tryd.func4.symm.trans hfn)).symm
      refine ⟨by kernel_rfl, fun j t ht => ?_⟩
      rw [Tryd.params4] at ht
      have h0 : ∀ t ∈ Tryd.f4.params.toList, Tryd.prog.wantsStandIn t = false := by
        rw [Tryd.params4]; simp only [List.mem_cons, List.not_mem_nil, or_false, forall_eq_or_imp, forall_eq]; kernel_rfl
      exact h0 t (by rw [Tryd.params4]; exact List.mem_of_getElem? (by simpa using ht)))
    (by kernel_rfl)
#print axioms proved
end Go.Proofs.YtlmiakgannpocaaDoor.fnExactParseCode
