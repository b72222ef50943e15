import Derived.Test.YtaidalilfmjfgaaGreatTree
import Derived.Test.YtaidalilfmjfgaaGreatArg
import Derived.Test.YtaidalilfmjfgaaGreatPtr
namespace Go.Proofs.YtaidalilfmjfgaaGreat
open Go.RowKit
set_option linter.unusedVariables false
set_option linter.unusedSimpArgs false
instance : Inhabited Ty := ⟨.mk 0 []⟩
instance : Inhabited Tm := ⟨.mk 0 default default 0 default default []⟩
def flC {α:Type} (c:α→List D):List α→List D
 | []=>[]
 | x :: xs=>c x++flC c xs
theorem flC_len {α:Type} {c:α→List D} {n:Nat} (hc:∀ x,(c x).length=n):∀ xs:List α,(flC c xs).length=xs.length * n
 | []=>by simp [flC]
 | x :: xs=>by rw [flC,List.length_append,hc,flC_len hc xs,List.length_cons,Nat.succ_mul];omega
theorem flC_app {α:Type} (c:α→List D):∀ a b:List α,flC c (a++b)=flC c a++flC c b
 | [],b=>rfl
 | x :: a,b=>by rw [List.cons_append,flC,flC,flC_app c a b,List.append_assoc]
theorem flC_row {α : Type} [Inhabited α] {c : α → List D} {n : Nat} (hc : ∀ x, (c x).length = n) : ∀ (xs : List α) (k : Nat), k < xs.length → rowAt n (flC c xs) k = c xs[k]!
  | x :: xs, 0, _ => by
    rw [rowAt, flC, Nat.zero_mul, List.drop_zero, List.take_append_of_le_length (by rw [hc]; exact Nat.le_refl _), List.take_of_length_le (by rw [hc]; exact Nat.le_refl _)]; rfl
  | x :: xs, k + 1, h => by
    have := flC_row hc xs k (by simpa using h)
    rw [rowAt] at this ⊢
    rw [flC, Nat.succ_mul, List.drop_append, hc, List.drop_of_length_le (by rw [hc]; omega), List.nil_append, Nat.add_sub_cancel, this]
    simp
theorem flC_one {α:Type} (c:α→List D) (x:α):flC c [x]=c x:=by simp [flC]
theorem take_snoc {α:Type} [Inhabited α] (xs:List α) (k:Nat) (h:k<xs.length):xs.take (k+1)=xs.take k++[xs[k]!]:=by
 rw [List.take_succ_eq_append_getElem h,getElem!_pos xs k h]
theorem flC_snoc {α:Type} [Inhabited α] (c:α→List D) (xs:List α) (k:Nat) (h:k<xs.length):flC c (xs.take (k+1))=flC c (xs.take k)++c xs[k]! := by
 rw [take_snoc xs k h,flC_app,flC_one]
theorem tysC_row' (xs:List Ty) (k:Nat) (h:k<xs.length):rowAt 2 (tysC xs) k=tyC xs[k]! := by rw [tysC_row xs k h,getElem!_pos xs k h]
theorem tmsC_row' (xs:List Tm) (k:Nat) (h:k<xs.length):rowAt 9 (tmsC xs) k=tmC xs[k]! := by rw [tmsC_row xs k h,getElem!_pos xs k h]
theorem tysC_flat:∀ xs:List Ty,tysC xs=flC tyC xs
 | []=>by simp [tysC,flC]
 | x :: xs=>by rw [tysC,flC,tysC_flat xs]
theorem tmsC_flat:∀ xs:List Tm,tmsC xs=flC tmC xs
 | []=>by simp [tmsC,flC]
 | x :: xs=>by rw [tmsC,flC,tmsC_flat xs]
theorem strs_row (xs:List ByteArray) (k:Nat) (h:k<xs.length):rowAt 1 (xs.map D.str) k=[.str xs[k]!]:=by
 have h2:k<(xs.map D.str).length:=by simpa using h
 rw [rowAt,Nat.mul_one,List.drop_eq_getElem_cons h2]
 simp [getElem!_pos xs k h]
theorem ints_row (xs:List Int) (k:Nat) (h:k<xs.length):rowAt 1 (xs.map D.int) k=[.int xs[k]!]:=by
 have h2:k<(xs.map D.int).length:=by simpa using h
 rw [rowAt,Nat.mul_one,List.drop_eq_getElem_cons h2]
 simp [getElem!_pos xs k h]
theorem tysC_snoc' (xs:List Ty) (k:Nat) (h:k<xs.length):tysC (xs.take (k+1))=tysC (xs.take k)++tyC xs[k]! := by rw [tysC_flat,tysC_flat,flC_snoc tyC xs k h]
theorem tmsC_snoc' (xs:List Tm) (k:Nat) (h:k<xs.length):tmsC (xs.take (k+1))=tmsC (xs.take k)++tmC xs[k]! := by rw [tmsC_flat,tmsC_flat,flC_snoc tmC xs k h]
theorem cast1 (k:Nat):((k+1:Nat):Int)=(k:Int)+1:=rfl
def rn2 (a b c d:Nat):Nat→Nat:=fun i=>if i=a then b else if i=c then d else i
def rn3 (a b c d e f:Nat):Nat→Nat:=fun i=>if i=a then b else if i=c then d else if i=e then f else i
theorem mem_bang {α:Type} [Inhabited α] {xs:List α} {k:Nat} (h:k<xs.length):xs[k]! ∈ xs:=by rw [getElem!_pos xs k h];exact List.getElem_mem h
def rnL (l:List (Nat × Nat)):Nat→Nat:=fun i=>(look l i).getD i
def rn1 (a b:Nat):Nat→Nat:=fun i=>if i=a then b else i
structure Tg where
 name:ByteArray
 ty:Ty
 level:Int
 deriving Inhabited
def tgC (t:Tg):List D:=[.str t.name,.int t.ty.kind,tysD t.ty.args,.int t.level]
def tgsD (xs:List Tg):D:=.rows 4 xs.length (flC tgC xs)
theorem tgC_len (t:Tg):(tgC t).length=4:=rfl
structure Im where
 name:ByteArray
 coef:Int
 deriving Inhabited
def imC (t:Im):List D:=[.str t.name,.int t.coef]
def imsD (xs:List Im):D:=.rows 2 xs.length (flC imC xs)
theorem imC_len (t:Im):(imC t).length=2:=rfl
structure Sm where
 const:Int
 items:List Im
 deriving Inhabited
def sumC (t:Sm):List D:=[.int t.const,imsD t.items]
theorem rpd_nil (w:World):RepPDs w [] []:=by unfold RepPDs;rfl
theorem rpd_cons {w:World} {p:PD} {ps:List PD} {v:Value} {vs:List Value} (h:RepPD w p v) (h2:RepPDs w ps vs):RepPDs w (p :: ps) (v :: vs):=by unfold RepPDs;exact ⟨v,vs,rfl,h,h2⟩
theorem rpd_one {w:World} {d:D} {v:Value} (h:RepV w w.heap.size d v):RepPD w (.one d) v:=by unfold RepPD;exact h
end Go.Proofs.YtaidalilfmjfgaaGreat
