import Derived.Test.YtaidalilfmjfgaaGreatUMark
import Derived.Laws.AppendOwn
import Derived.Laws.StructEq
namespace Go.Proofs.YtaidalilfmjfgaaGreat
open Go.RowKit
set_option linter.unusedVariables false
theorem Ch.one {w:World} {d:D} {v:Value} {fp:List Nat} (h:Ch w d v fp):v.oneCell'=true:=by
 cases d
 ·unfold Ch at h;rw [h.1];rfl
 ·unfold Ch at h;rw [h.1];rfl
 ·unfold Ch at h;rw [h.1];rfl
 ·unfold Ch at h;obtain ⟨a,c,e,_⟩:=h;rw [e];rfl
 ·unfold Ch at h;exact h.1
 ·unfold Ch at h;rw [h.1];rfl
set_option linter.unusedSimpArgs false
def okS:Nat→Value→Prop
 | 1,v=>∃ n,v = .int .i64 n
 | 2,v=>∃ s,v = .string s
 | 3,v=>∃ b,v = .bool b
 | _,_=>False
def PY:List Nat→List Value→Prop
 | [],us=>us=[]
 | k :: ks,us=>∃ u r,us=u :: r∧okS k u∧PY ks r
def eqV:Value→Value→Bool
 | .int _ a,.int _ b=>decide (a=b)
 | .string a,.string b=>decide (a=b)
 | .bool a,.bool b=>decide (a=b)
 | _,_=>false
def UW:List Value→List Value→Bool
 | [],[]=>true
 | a :: r,b :: s=>eqV a b && UW r s
 | _,_=>false
def Qi (P:Program):List Field→List Nat→Nat→Bool
 | [],[],_=>true
 | f :: fs, k :: ks, i => f.name != "_" && f.offset == i && (match P.underlying f.type with | some (.int _) => k == 1 | some .string => k == 2 | some .bool => k == 3 | _ => false) && Qi P fs ks (i + 1)
 | _,_,_=>false
def tEq (P:Program) (T:TypeId) (l:List Nat):Bool:=(match P.underlying T with | some (.struct _)=>true | _=>false) && !P.stoodInHeld T && !P.eqGuardType P.depth T && Qi P (P.fieldsOf T).toList l 0
theorem NL {P:Program} {t:TypeId} {d:TypeDesc} (hu:P.underlying t=some d) (hd:(∃ k,d = .int k)∨d = .string∨d = .bool) {xs:Array Value} {off:Nat} {v:Value} (hx:xs[off]? = some v) (w:World):(part t xs off).run P w = .ok v w:=by
 rcases hd with ⟨k,rfl⟩ | rfl | rfl <;> simp [part,isAgg,run_underlying hu,hx]
theorem aDC (x y:ByteArray):(x.toList == y.toList)=decide (x=y):=by
 by_cases h:x=y
 ·subst h;simp
 ·simp only [decide_eq_false h]
  have:x.toList≠y.toList:=fun e=>h (ByteArray.ext (by
   have:=congrArg List.toArray e
   simpa [ByteArray.toList_eq] using this))
  simpa using this
theorem Hj {P:Program} (d:Nat) (xs ys:Array Value) (w:World):∀ (fs:List Field) (l:List Nat) (i:Nat) (us vs:List Value),Qi P fs l i=true→PY l us→PY l vs→xs.toList.drop i=us→ys.toList.drop i=vs→(Op.eqFields (d+1) xs ys fs).run P w = .ok (UW us vs) w
 | [],[],i,us,vs,_,hu,hv,_,_=>by
  unfold PY at hu hv
  subst hu hv
  simp [Op.eqFields,UW]
 | [],_ :: _,i,us,vs,h,_,_,_,_=>by unfold Qi at h;cases h
 | _ :: _,[],i,us,vs,h,_,_,_,_=>by unfold Qi at h;cases h
 | f :: fs,k :: ks,i,us,vs,h,hu,hv,hx,hy=>by
  unfold Qi at h
  simp only [Bool.and_eq_true] at h
  obtain ⟨⟨⟨h1,h2⟩,h3⟩,h4⟩:=h
  unfold PY at hu hv
  obtain ⟨u,r,rfl,hu1,hu2⟩:=hu
  obtain ⟨v,q,rfl,hv1,hv2⟩:=hv
  have hi:f.offset=i:=by simpa using h2
  have hn : f.name ≠ "_" := by simpa using h1
  have hxu:xs[i]? = some u:=by
   have:=congrArg List.head? hx
   simpa [List.head?_drop] using this
  have hyv:ys[i]? = some v:=by
   have:=congrArg List.head? hy
   simpa [List.head?_drop] using this
  have hx2:xs.toList.drop (i+1)=r:=by rw [← List.drop_drop,hx];rfl
  have hy2:ys.toList.drop (i+1)=q:=by rw [← List.drop_drop,hy];rfl
  have ih:=Hj d xs ys w fs ks (i+1) r q h4 hu2 hv2 hx2 hy2
  have key:∃ dd,P.underlying f.type=some dd∧((∃ k,dd = .int k)∨dd = .string∨dd = .bool)∧(Op.equalIn (d+1) f.type u v).run P w = .ok (eqV u v) w:=by
   cases hd:P.underlying f.type with
   | none=>rw [hd] at h3;cases h3
   | some dd =>
    rw [hd] at h3
    cases dd <;> simp only at h3 <;> first | (cases h3;done) | skip
    ·obtain rfl:k=3:=by simpa using h3
     obtain ⟨a,rfl⟩:=hu1
     obtain ⟨b,rfl⟩:=hv1
     refine ⟨_,rfl,.inr (.inr rfl), ?_⟩
     rw [run_equalIn_bool' w d f.type a b hd]
     cases a <;> cases b <;> rfl
    ·obtain rfl:k=1:=by simpa using h3
     obtain ⟨a,rfl⟩:=hu1
     obtain ⟨b,rfl⟩:=hv1
     refine ⟨_,rfl,.inl ⟨_,rfl⟩, ?_⟩
     rw [run_equalIn_int w d f.type _ _ a b hd]
     congr 1
    ·obtain rfl:k=2:=by simpa using h3
     obtain ⟨a,rfl⟩:=hu1
     obtain ⟨b,rfl⟩:=hv1
     refine ⟨_,rfl,.inr (.inl rfl), ?_⟩
     rw [run_equalIn_string w d f.type a b hd,aDC]
     rfl
  obtain ⟨dd,hdd,hk,he⟩:=key
  unfold Op.eqFields
  rw [if_pos hn,hi]
  simp only [Sem.run_bind,NL hdd hk hxu,NL hdd hk hyv,Result.andThen_ok,he]
  rw [UW]
  cases eqV u v
  ·simp
  ·simpa using ih
theorem OT {P:Program} {T:TypeId} {l:List Nat} (h:tEq P T l=true) {us vs:List Value} (hu:PY l us) (hv:PY l vs) (ox oy:Operand) (w:World) :
  (do eqGuard .eql T ox oy (.agg us.toArray) (.agg vs.toArray);binOp .eql T (.agg us.toArray) (.agg vs.toArray)).run P w = .ok (.bool (UW us vs)) w ∧
  (do eqGuard .neq T ox oy (.agg us.toArray) (.agg vs.toArray);binOp .neq T (.agg us.toArray) (.agg vs.toArray)).run P w = .ok (.bool (!UW us vs)) w:=by
 unfold tEq at h
 simp only [Bool.and_eq_true,Bool.not_eq_true'] at h
 obtain ⟨⟨⟨h1,h2⟩,h3⟩,h4⟩:=h
 have hst:P.underlying T=some (.struct (P.fieldsOf T)):=by
  cases hd:P.underlying T with
  | none=>rw [hd] at h1;cases h1
  | some dd =>
   rw [hd] at h1
   cases dd <;> simp only at h1 <;> first | (cases h1;done) | skip
   simp only [Program.fieldsOf,hd]
 have he:(Op.equalIn 10000 T (.agg us.toArray) (.agg vs.toArray)).run P w = .ok (UW us vs) w:=by
  rw [show (10000:Nat)=9999+1 from rfl,run_equalIn_agg w 9999 T _ _ hst h2]
  exact Hj 9998 _ _ w _ l 0 us vs h4 hu hv (by simp) (by simp)
 constructor
 ·rw [Sem.run_bind,run_eqGuard_agg w .eql T ox oy _ _ h3]
  simp only [Result.andThen_ok,run_eql_struct,he]
 ·rw [Sem.run_bind,run_eqGuard_agg w .neq T ox oy _ _ h3]
  simp only [Result.andThen_ok,run_neq_struct,he]
end Go.Proofs.YtaidalilfmjfgaaGreat
