import Derived.Test.YtaidalilfmjfgaaGreatDat
import Derived.Test.YtaidalilfmjfgaaGreatUMark
namespace Go.Proofs.YtaidalilfmjfgaaGreat
open Go.RowKit
set_option linter.unusedVariables false
set_option linter.unusedSimpArgs false
def FnOk (P : Program) (f : FuncId) : Prop := ∃ fn, P.funcs[f]? = some fn ∧ fn.body.isNone = false ∧ (fn.name == "runtime.NumGoroutine") = false
theorem con_U1 {P:Program} {f:FuncId} {ps:List PD} {d:D} (hf:FnOk P f) (h:∀ w us,RepPDs w ps us→Calls P f us.toArray w fun e w'=>∃ u,e = .returned u∧Fresh w' w.heap.size d u∧Below w.heap.size w w'):Con P f ps [.one d] :=
 ⟨hf,fun w us _ hu=>(h w us hu).mono fun e w' ⟨u,he,hfr,hb⟩=>⟨hb,[u],he,by simpa [flatD] using FreshL.one hfr⟩⟩
theorem fr_int (w:World) (B:Nat) (n:Int):Fresh w B (.int n) (.int .i64 n):=⟨[],by unfold OwnV;exact ⟨rfl,rfl⟩,by simp,by simp⟩
theorem rpd_c {w:World} {p:PD} {ps:List PD} {us:List Value} (h:RepPDs w (p :: ps) us):∃ v r,us=v :: r∧RepPD w p v∧RepPDs w ps r:=by unfold RepPDs at h;exact h
theorem rpd_n {w:World} {us:List Value} (h:RepPDs w [] us):us=[]:=by unfold RepPDs at h;exact h
theorem own1 {w:World} {d:D} {vs:List Value} {fp:List Nat} (h:OwnVs w [d] vs fp):∃ v,vs=[v]∧OwnV w d v fp:=by
 unfold OwnVs OwnVs at h
 obtain ⟨v,r,f1,f2,rfl,rfl,h1,rfl,rfl⟩:=h
 exact ⟨v,rfl,by simpa using h1⟩
theorem lp_top {P:Program} {f:FuncId} {ps:List PD} (h:Con P f ps [.one (.bool true)]) {w:World} {us:List Value} (hu:RepPDs w ps us) (hg:GI w:=by first | assumption | exact ⟨fun k hk=>by simp [GBl] at hk,trivial⟩):Calls P f us.toArray w fun e w'=>e = .returned (.bool true)∧Below w.heap.size w w' :=
 (h.2 w us hg hu).mono fun e w' ⟨hb,vs,he,fp,ho,hn,hB⟩=>by
  obtain ⟨v,rfl,ho1⟩:=own1 (show OwnVs w' [.bool true] vs fp from ho)
  unfold OwnV at ho1
  exact ⟨by rw [he,ho1.1];rfl,hb⟩
end Go.Proofs.YtaidalilfmjfgaaGreat
