import Derived.Test.YtaidalilfmjfgaaGreatConf
namespace Go.Proofs.YtaidalilfmjfgaaGreat
open Go.RowKit
inductive Ty where
 | mk (kind:Int) (args:List Ty)
def Ty.kind:Ty→Int | .mk k _=>k
def Ty.args:Ty→List Ty | .mk _ a=>a
inductive Tm where
 | mk (kind:Int) (name other:ByteArray) (n:Int) (ty res:Ty) (args:List Tm)
def Tm.kind:Tm→Int | .mk k _ _ _ _ _ _=>k
def Tm.name:Tm→ByteArray | .mk _ s _ _ _ _ _=>s
def Tm.other:Tm→ByteArray | .mk _ _ s _ _ _ _=>s
def Tm.n:Tm→Int | .mk _ _ _ n _ _ _=>n
def Tm.ty:Tm→Ty | .mk _ _ _ _ t _ _=>t
def Tm.res:Tm→Ty | .mk _ _ _ _ _ t _=>t
def Tm.args:Tm→List Tm | .mk _ _ _ _ _ _ a=>a
mutual
def tyC:Ty→List D
 | .mk k xs=>[.int k,.rows 2 xs.length (Ai xs)]
def Ai:List Ty→List D
 | []=>[]
 | a :: xs=>tyC a++Ai xs
end
def GB (xs:List Ty):D:=.rows 2 xs.length (Ai xs)
mutual
def tmC:Tm→List D
 | .mk k s o n t r xs => .int k :: .str s :: .str o :: .int n :: (tyC t++(tyC r++[.rows 9 xs.length (Av xs)]))
def Av:List Tm→List D
 | []=>[]
 | a :: xs=>tmC a++Av xs
end
def aG0 (xs:List Tm):D:=.rows 9 xs.length (Av xs)
theorem Au (t:Ty):tyC t=[.int t.kind,GB t.args]:=by cases t;rfl
theorem Ak (e:Tm):tmC e=[.int e.kind,.str e.name,.str e.other,.int e.n,.int e.ty.kind,GB e.ty.args,.int e.res.kind,GB e.res.args,aG0 e.args]:=by
 obtain ⟨k,s,o,n,t,r,xs⟩:=e
 rw [tmC,Au,Au];rfl
theorem KM (t:Ty):(tyC t).length=2:=by rw [Au];rfl
theorem JJ (t:Tm):(tmC t).length=9:=by rw [Ak];rfl
theorem FJ:∀ a b:List Ty,Ai (a++b)=Ai a++Ai b
 | [],b=>rfl
 | x :: a,b=>by rw [List.cons_append,Ai,Ai,FJ a b,List.append_assoc]
theorem Ek:∀ a b:List Tm,Av (a++b)=Av a++Av b
 | [],b=>rfl
 | x :: a,b=>by rw [List.cons_append,Av,Av,Ek a b,List.append_assoc]
theorem Ph:∀ (xs:List Ty) (k:Nat) (h:k<xs.length),rowAt 2 (Ai xs) k=tyC xs[k]
 | a :: xs,0,_=>by
  rw [rowAt,Ai,Nat.zero_mul,List.drop_zero,List.take_append_of_le_length (by rw [KM];exact Nat.le_refl _),List.take_of_length_le (by rw [KM];exact Nat.le_refl _)];rfl
 | a :: xs,k+1,h=>by
  have:=Ph xs k (by simpa using h)
  rw [rowAt] at this ⊢
  rw [Ai,Nat.succ_mul,List.drop_append,KM,List.drop_of_length_le (by rw [KM];omega),List.nil_append,Nat.add_sub_cancel,this]
  rfl
theorem Oa:∀ (xs:List Tm) (k:Nat) (h:k<xs.length),rowAt 9 (Av xs) k=tmC xs[k]
 | a :: xs,0,_=>by
  rw [rowAt,Av,Nat.zero_mul,List.drop_zero,List.take_append_of_le_length (by rw [JJ];exact Nat.le_refl _),List.take_of_length_le (by rw [JJ];exact Nat.le_refl _)];rfl
 | a :: xs,k+1,h=>by
  have:=Oa xs k (by simpa using h)
  rw [rowAt] at this ⊢
  rw [Av,Nat.succ_mul,List.drop_append,JJ,List.drop_of_length_le (by rw [JJ];omega),List.nil_append,Nat.add_sub_cancel,this]
  rfl
theorem Ty.ind {p:Ty→Prop} (h:∀ k xs,(∀ a ∈ xs,p a)→p (.mk k xs)):∀ t,p t
 | .mk k xs=>h k xs (go xs)
where go:∀ xs:List Ty,∀ a ∈ xs,p a
 | [],_,hm=>by simp at hm
 | c :: xs,a,hm=>by
  rcases List.mem_cons.1 hm with e | hm
  ·rw [e];exact Ty.ind h c
  ·exact go xs a hm
theorem Tm.ind {p:Tm→Prop} (h:∀ e:Tm,(∀ a ∈ e.args,p a)→p e):∀ e,p e
 | .mk k s o n t r xs=>h (.mk k s o n t r xs) (go xs)
where go:∀ xs:List Tm,∀ a ∈ xs,p a
 | [],_,hm=>by simp at hm
 | c :: xs,a,hm=>by
  rcases List.mem_cons.1 hm with e | hm
  ·rw [e];exact Tm.ind h c
  ·exact go xs a hm
attribute [push_cast] GB aG0
end Go.Proofs.YtaidalilfmjfgaaGreat
