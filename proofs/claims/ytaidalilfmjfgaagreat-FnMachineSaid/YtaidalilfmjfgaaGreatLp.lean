import Derived.Test.YtaidalilfmjfgaaGreatDat
namespace Go.Proofs.YtaidalilfmjfgaaGreat
open Go.RowKit
set_option linter.unusedVariables false
set_option linter.unusedSimpArgs false
def aJl (P : Program) (f : FuncId) : Prop := ∃ fn, P.funcs[f]? = some fn ∧ fn.body.isNone = false ∧ (fn.name == "runtime.NumGoroutine") = false
theorem TA {P:Program} {f:FuncId} {ps:List PD} {d:D} (hf:aJl P f) (h:∀ w us,BB w ps us→Calls P f us.toArray w fun e w'=>∃ u,e = .returned u∧aA3 w' w.heap.size d u∧Below w.heap.size w w'):Con P f ps [.one d] :=
 ⟨hf,fun w us _ hu=>(h w us hu).mono fun e w' ⟨u,he,hfr,hb⟩=>⟨hb,[u],he,by simpa [CL] using Lf.one hfr⟩⟩
theorem WY {w:World} {p:PD} {ps:List PD} {us:List Value} (h:BB w (p :: ps) us):∃ v r,us=v :: r∧DJ w p v∧BB w ps r:=by unfold BB at h;exact h
theorem Yu {w:World} {us:List Value} (h:BB w [] us):us=[]:=by unfold BB at h;exact h
theorem OO {w:World} {n:Int} {v:Value} (h:DJ w (.one (.int n)) v):v = .int .i64 n:=by unfold DJ EM at h;exact h
theorem OE {w:World} {d:D} {v:Value} (h:DJ w (.one d) v):EM w w.heap.size d v:=by unfold DJ at h;exact h
theorem aJz {w:World} {d:D} {vs:List Value} {fp:List Nat} (h:Ao w [d] vs fp):∃ v,vs=[v]∧Ch w d v fp:=by
 unfold Ao Ao at h
 obtain ⟨v,r,f1,f2,rfl,rfl,h1,rfl,rfl⟩:=h
 exact ⟨v,rfl,by simpa using h1⟩
theorem aCI {P:Program} {f:FuncId} {ps:List PD} (h:Con P f ps [.one (.bool true)]) {w:World} {us:List Value} (hu:BB w ps us) (hg:GI w:=by first | assumption | exact ⟨fun k hk=>by simp [GBl] at hk,trivial⟩):Calls P f us.toArray w fun e w'=>e = .returned (.bool true)∧Below w.heap.size w w' :=
 (h.2 w us hg hu).mono fun e w' ⟨hb,vs,he,fp,ho,hn,hB⟩=>by
  obtain ⟨v,rfl,ho1⟩:=aJz (show Ao w' [.bool true] vs fp from ho)
  unfold Ch at ho1
  exact ⟨by rw [he,ho1.1];rfl,hb⟩
end Go.Proofs.YtaidalilfmjfgaaGreat
