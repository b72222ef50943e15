import Derived.Test.YtaidalilfmjfgaaGreatConf
namespace Go.Proofs.YtaidalilfmjfgaaGreat
open Go.RowKit
inductive Ty where
 | mk (kind:Int) (args:List Ty)
def Ty.kind:Ty→Int | .mk k _=>k
def Ty.args:Ty→List Ty | .mk _ a=>a
inductive Tm where
 | mk (kind:Int) (name other:ByteArray) (n:Int) (ty res:Ty) (args:List Tm)
def Tm.kind:Tm→Int | .mk k _ _ _ _ _ _=>k
def Tm.name:Tm→ByteArray | .mk _ s _ _ _ _ _=>s
def Tm.other:Tm→ByteArray | .mk _ _ s _ _ _ _=>s
def Tm.n:Tm→Int | .mk _ _ _ n _ _ _=>n
def Tm.ty:Tm→Ty | .mk _ _ _ _ t _ _=>t
def Tm.res:Tm→Ty | .mk _ _ _ _ _ t _=>t
def Tm.args:Tm→List Tm | .mk _ _ _ _ _ _ a=>a
mutual
def tyC:Ty→List D
 | .mk k xs=>[.int k,.rows 2 xs.length (tysC xs)]
def tysC:List Ty→List D
 | []=>[]
 | a :: xs=>tyC a++tysC xs
end
def tysD (xs:List Ty):D:=.rows 2 xs.length (tysC xs)
mutual
def tmC:Tm→List D
 | .mk k s o n t r xs => .int k :: .str s :: .str o :: .int n :: (tyC t++(tyC r++[.rows 9 xs.length (tmsC xs)]))
def tmsC:List Tm→List D
 | []=>[]
 | a :: xs=>tmC a++tmsC xs
end
def tmsD (xs:List Tm):D:=.rows 9 xs.length (tmsC xs)
theorem tyC_eq (t:Ty):tyC t=[.int t.kind,tysD t.args]:=by cases t;rfl
theorem tmC_eq (e:Tm):tmC e=[.int e.kind,.str e.name,.str e.other,.int e.n,.int e.ty.kind,tysD e.ty.args,.int e.res.kind,tysD e.res.args,tmsD e.args]:=by
 obtain ⟨k,s,o,n,t,r,xs⟩:=e
 rw [tmC,tyC_eq,tyC_eq];rfl
theorem tyC_len (t:Ty):(tyC t).length=2:=by rw [tyC_eq];rfl
theorem tmC_len (t:Tm):(tmC t).length=9:=by rw [tmC_eq];rfl
theorem tmsC_len:∀ xs:List Tm,(tmsC xs).length=xs.length * 9
 | []=>rfl
 | a :: xs=>by rw [tmsC,List.length_append,tmC_len,tmsC_len xs,List.length_cons];omega
theorem tysC_append:∀ a b:List Ty,tysC (a++b)=tysC a++tysC b
 | [],b=>rfl
 | x :: a,b=>by rw [List.cons_append,tysC,tysC,tysC_append a b,List.append_assoc]
theorem tmsC_append:∀ a b:List Tm,tmsC (a++b)=tmsC a++tmsC b
 | [],b=>rfl
 | x :: a,b=>by rw [List.cons_append,tmsC,tmsC,tmsC_append a b,List.append_assoc]
theorem tysC_row : ∀ (xs : List Ty) (k : Nat) (h : k < xs.length), rowAt 2 (tysC xs) k = tyC xs[k]
  | a :: xs, 0, _ => by
    rw [rowAt, tysC, Nat.zero_mul, List.drop_zero, List.take_append_of_le_length (by rw [tyC_len]; exact Nat.le_refl _), List.take_of_length_le (by rw [tyC_len]; exact Nat.le_refl _)]; rfl
  | a :: xs, k + 1, h => by
    have := tysC_row xs k (by simpa using h)
    rw [rowAt] at this ⊢
    rw [tysC, Nat.succ_mul, List.drop_append, tyC_len, List.drop_of_length_le (by rw [tyC_len]; omega), List.nil_append, Nat.add_sub_cancel, this]
    rfl
theorem tmsC_row : ∀ (xs : List Tm) (k : Nat) (h : k < xs.length), rowAt 9 (tmsC xs) k = tmC xs[k]
  | a :: xs, 0, _ => by
    rw [rowAt, tmsC, Nat.zero_mul, List.drop_zero, List.take_append_of_le_length (by rw [tmC_len]; exact Nat.le_refl _), List.take_of_length_le (by rw [tmC_len]; exact Nat.le_refl _)]; rfl
  | a :: xs, k + 1, h => by
    have := tmsC_row xs k (by simpa using h)
    rw [rowAt] at this ⊢
    rw [tmsC, Nat.succ_mul, List.drop_append, tmC_len, List.drop_of_length_le (by rw [tmC_len]; omega), List.nil_append, Nat.add_sub_cancel, this]
    rfl
theorem Ty.ind {p:Ty→Prop} (h:∀ k xs,(∀ a ∈ xs,p a)→p (.mk k xs)):∀ t,p t
 | .mk k xs=>h k xs (go xs)
where go : ∀ xs : List Ty, ∀ a ∈ xs, p a
  | [], _, hm => by simp at hm
  | c :: xs, a, hm => by
    rcases List.mem_cons.1 hm with e | hm
    · rw [e]; exact Ty.ind h c
    · exact go xs a hm
theorem Tm.ind {p:Tm→Prop} (h:∀ e:Tm,(∀ a ∈ e.args,p a)→p e):∀ e,p e
 | .mk k s o n t r xs=>h (.mk k s o n t r xs) (go xs)
where go : ∀ xs : List Tm, ∀ a ∈ xs, p a
  | [], _, hm => by simp at hm
  | c :: xs, a, hm => by
    rcases List.mem_cons.1 hm with e | hm
    · rw [e]; exact Tm.ind h c
    · exact go xs a hm
attribute [push_cast] tysD tmsD
end Go.Proofs.YtaidalilfmjfgaaGreat
