import Derived.Test.YtaidalilfmjfgaaGreatPtr
namespace Go.Proofs.YtaidalilfmjfgaaGreat
open Go.RowKit
set_option linter.unusedVariables false
set_option linter.unusedSimpArgs false
instance : Inhabited Ty := ⟨.mk 0 []⟩
instance : Inhabited Tm := ⟨.mk 0 default default 0 default default []⟩
def flC {α:Type} (c:α→List D):List α→List D
 | []=>[]
 | x :: xs=>c x++flC c xs
theorem KW {α:Type} {c:α→List D} {n:Nat} (hc:∀ x,(c x).length=n):∀ xs:List α,(flC c xs).length=xs.length * n
 | []=>by simp [flC]
 | x :: xs=>by rw [flC,List.length_append,hc,KW hc xs,List.length_cons,Nat.succ_mul];omega
theorem AM {α:Type} (c:α→List D):∀ a b:List α,flC c (a++b)=flC c a++flC c b
 | [],b=>rfl
 | x :: a,b=>by rw [List.cons_append,flC,flC,AM c a b,List.append_assoc]
theorem CR {α:Type} [Inhabited α] {c:α→List D} {n:Nat} (hc:∀ x,(c x).length=n):∀ (xs:List α) (k:Nat),k<xs.length→rowAt n (flC c xs) k=c xs[k]!
 | x :: xs,0,_=>by
  rw [rowAt,flC,Nat.zero_mul,List.drop_zero,List.take_append_of_le_length (by rw [hc];exact Nat.le_refl _),List.take_of_length_le (by rw [hc];exact Nat.le_refl _)];rfl
 | x :: xs,k+1,h=>by
  have:=CR hc xs k (by simpa using h)
  rw [rowAt] at this ⊢
  rw [flC,Nat.succ_mul,List.drop_append,hc,List.drop_of_length_le (by rw [hc];omega),List.nil_append,Nat.add_sub_cancel,this]
  simp
theorem AA {α:Type} (c:α→List D) (x:α):flC c [x]=c x:=by simp [flC]
theorem AH {α:Type} [Inhabited α] (xs:List α) (k:Nat) (h:k<xs.length):xs.take (k+1)=xs.take k++[xs[k]!]:=by
 rw [List.take_succ_eq_append_getElem h,getElem!_pos xs k h]
theorem NK {α:Type} [Inhabited α] (c:α→List D) (xs:List α) (k:Nat) (h:k<xs.length):flC c (xs.take (k+1))=flC c (xs.take k)++c xs[k]! := by
 rw [AH xs k h,AM,AA]
theorem Ax (xs:List Ty) (k:Nat) (h:k<xs.length):rowAt 2 (Ai xs) k=tyC xs[k]! := by rw [Ph xs k h,getElem!_pos xs k h]
theorem Aj (xs:List Tm) (k:Nat) (h:k<xs.length):rowAt 9 (Av xs) k=tmC xs[k]! := by rw [Oa xs k h,getElem!_pos xs k h]
theorem Dp:∀ xs:List Ty,Ai xs=flC tyC xs
 | []=>by simp [Ai,flC]
 | x :: xs=>by rw [Ai,flC,Dp xs]
theorem At:∀ xs:List Tm,Av xs=flC tmC xs
 | []=>by simp [Av,flC]
 | x :: xs=>by rw [Av,flC,At xs]
theorem Cc (xs:List ByteArray) (k:Nat) (h:k<xs.length):rowAt 1 (xs.map D.str) k=[.str xs[k]!]:=by
 have h2:k<(xs.map D.str).length:=by simpa using h
 rw [rowAt,Nat.mul_one,List.drop_eq_getElem_cons h2]
 simp [getElem!_pos xs k h]
theorem Vx (xs:List Int) (k:Nat) (h:k<xs.length):rowAt 1 (xs.map D.int) k=[.int xs[k]!]:=by
 have h2:k<(xs.map D.int).length:=by simpa using h
 rw [rowAt,Nat.mul_one,List.drop_eq_getElem_cons h2]
 simp [getElem!_pos xs k h]
theorem Qb (xs:List Ty) (k:Nat) (h:k<xs.length):Ai (xs.take (k+1))=Ai (xs.take k)++tyC xs[k]! := by rw [Dp,Dp,NK tyC xs k h]
theorem GS (xs:List Tm) (k:Nat) (h:k<xs.length):Av (xs.take (k+1))=Av (xs.take k)++tmC xs[k]! := by rw [At,At,NK tmC xs k h]
theorem Bx (k:Nat):((k+1:Nat):Int)=(k:Int)+1:=rfl
def rn2 (a b c d:Nat):Nat→Nat:=fun i=>if i=a then b else if i=c then d else i
def rn3 (a b c d e f:Nat):Nat→Nat:=fun i=>if i=a then b else if i=c then d else if i=e then f else i
theorem Ab {α:Type} [Inhabited α] {xs:List α} {k:Nat} (h:k<xs.length):xs[k]! ∈ xs:=by rw [getElem!_pos xs k h];exact List.getElem_mem h
def rnL (l:List (Nat × Nat)):Nat→Nat:=fun i=>(AO l i).getD i
def rn1 (a b:Nat):Nat→Nat:=fun i=>if i=a then b else i
structure Tg where
 name:ByteArray
 ty:Ty
 level:Int
 deriving Inhabited
def tgC (t:Tg):List D:=[.str t.name,.int t.ty.kind,GB t.ty.args,.int t.level]
def Tb (xs:List Tg):D:=.rows 4 xs.length (flC tgC xs)
theorem Ky (t:Tg):(tgC t).length=4:=rfl
structure Ins where
 op:Int
 a:Int
 deriving Inhabited
def Bk (t:Ins):List D:=[.int t.op,.int t.a]
def DO (xs:List Ins):D:=.rows 2 xs.length (flC Bk xs)
theorem Gp (t:Ins):(Bk t).length=2:=rfl
theorem aAF (w:World):BB w [] []:=by unfold BB;rfl
theorem Uu {w:World} {p:PD} {ps:List PD} {v:Value} {vs:List Value} (h:DJ w p v) (h2:BB w ps vs):BB w (p :: ps) (v :: vs):=by unfold BB;exact ⟨v,vs,rfl,h,h2⟩
theorem Yj {w:World} {d:D} {v:Value} (h:EM w w.heap.size d v):DJ w (.one d) v:=by unfold DJ;exact h
end Go.Proofs.YtaidalilfmjfgaaGreat
