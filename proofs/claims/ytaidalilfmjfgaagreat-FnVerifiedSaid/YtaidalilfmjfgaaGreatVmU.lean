import Derived.Test.YtaidalilfmjfgaaGreatVmT
import Derived.Test.YtaidalilfmjfgaaGreatBy
namespace Go.Proofs.YtaidalilfmjfgaaGreat
open Go.RowKit
set_option linter.unusedVariables false
set_option maxRecDepth 20000
theorem co_T {ops:Array Oper} {r:OrdT} {n i:Nat} {listed:Array Bool} (h:((Region.ready .any ops listed).contains i && Region.free .any ops listed i && !lateAt ops i && (pureAt ops i || (List.range ops.size).all fun j=>listed.getD j true || !lateAt ops j || j == i || waits ops listed i ops.size j))=true) (h2:chkOrd ops r n (listed.setIfInBounds i true)=true):chkOrd ops (.cons i true r) (n+1) listed=true:=by
 rw [chkOrd,h,h2];rfl
theorem co_F {ops:Array Oper} {r:OrdT} {n i:Nat} {listed:Array Bool} (h:(Region.ready .any ops listed == [i])=true) (h2:chkOrd ops r n (listed.setIfInBounds i true)=true):chkOrd ops (.cons i false r) (n+1) listed=true:=by
 rw [chkOrd,h,h2];rfl
theorem co_fork {ops:Array Oper} {l:OrdT} {n:Nat} {listed:Array Bool} (h:(!(Region.ready .any ops listed).isEmpty && ((Region.ready .any ops listed).all fun i=>(altsOf l).contains i))=true) (h2:chkOrd ops l n listed=true):chkOrd ops (.fork l) (n+1) listed=true:=by
 rw [chkOrd,h,h2];rfl
theorem co_alt {ops:Array Oper} {r l:OrdT} {n i:Nat} {listed:Array Bool} (h:chkOrd ops r n (listed.setIfInBounds i true)=true) (h2:chkOrd ops l n listed=true):chkOrd ops (.alt i r l) n listed=true:=by
 rw [chkOrd,h,h2];rfl
theorem wo_cons {i:Nat} {b:Bool} {r:OrdT} (h:wellOrd r=true) (h2:isAlt r=false):wellOrd (.cons i b r)=true:=by rw [wellOrd,h,h2];rfl
theorem wo_fork {l:OrdT} (h:wellOrd l=true) (h2:isAlt l=true):wellOrd (.fork l)=true:=by rw [wellOrd,h,h2];rfl
theorem wo_alt {i:Nat} {r l:OrdT} (h:wellOrd r=true) (h2:isAlt r=false) (h3:wellOrd l=true) (h4:isAlt l=true):wellOrd (.alt i r l)=true:=by rw [wellOrd,h,h2,h3,h4];rfl
def opsIn (id:Nat):Code→Option (Array Oper)
 | .region i ops _=>if i=id then some ops else none
 | .seq a b=>(opsIn id a).orElse fun _=>opsIn id b
 | .cond _ a b=>(opsIn id a).orElse fun _=>opsIn id b
 | .block _ c=>opsIn id c
 | .loop c=>opsIn id c
 | _=>none
def opsI (id:Nat) (f:Func):Array Oper:=(f.body.bind (opsIn id)).getD #[]
def qc0:OrdT:=.nil
theorem qcw0:wellOrd qc0=true:=rfl
theorem qcc0:chkOrd (opsI 5 Tryz.f158) qc0 0 #[true,true,true,true,true,true,true,true,true,true,true,true,true,true,true,true,true,true,true,true,true,true,true,true,true]=true:=by kernel_rfl
def qc1:OrdT:=.cons 24 false qc0
theorem qcw1:wellOrd qc1=true:=wo_cons qcw0 rfl
theorem qcc1:chkOrd (opsI 5 Tryz.f158) qc1 1 #[true,true,true,true,true,true,true,true,true,true,true,true,true,true,true,true,true,true,true,true,true,true,true,true,false]=true:=co_F (by kernel_rfl) qcc0
def qc2:OrdT:=.cons 23 true qc1
theorem qcw2:wellOrd qc2=true:=wo_cons qcw1 rfl
theorem qcc2:chkOrd (opsI 5 Tryz.f158) qc2 2 #[true,true,true,true,true,true,true,true,true,true,true,true,true,true,true,true,true,true,true,true,true,true,true,false,false]=true:=co_T (by kernel_rfl) qcc1
def qc3:OrdT:=.cons 22 true qc2
theorem qcw3:wellOrd qc3=true:=wo_cons qcw2 rfl
theorem qcc3:chkOrd (opsI 5 Tryz.f158) qc3 3 #[true,true,true,true,true,true,true,true,true,true,true,true,true,true,true,true,true,true,true,true,true,true,false,false,false]=true:=co_T (by kernel_rfl) qcc2
def qc4:OrdT:=.cons 21 false qc3
theorem qcw4:wellOrd qc4=true:=wo_cons qcw3 rfl
theorem qcc4:chkOrd (opsI 5 Tryz.f158) qc4 4 #[true,true,true,true,true,true,true,true,true,true,true,true,true,true,true,true,true,true,true,true,true,false,false,false,false]=true:=co_F (by kernel_rfl) qcc3
def qc5:OrdT:=.cons 20 false qc4
theorem qcw5:wellOrd qc5=true:=wo_cons qcw4 rfl
theorem qcc5:chkOrd (opsI 5 Tryz.f158) qc5 5 #[true,true,true,true,true,true,true,true,true,true,true,true,true,true,true,true,true,true,true,true,false,false,false,false,false]=true:=co_F (by kernel_rfl) qcc4
def qc6:OrdT:=.cons 19 true qc5
theorem qcw6:wellOrd qc6=true:=wo_cons qcw5 rfl
theorem qcc6:chkOrd (opsI 5 Tryz.f158) qc6 6 #[true,true,true,true,true,true,true,true,true,true,true,true,true,true,true,true,true,true,true,false,false,false,false,false,false]=true:=co_T (by kernel_rfl) qcc5
def qc7:OrdT:=.cons 18 true qc6
theorem qcw7:wellOrd qc7=true:=wo_cons qcw6 rfl
theorem qcc7:chkOrd (opsI 5 Tryz.f158) qc7 7 #[true,true,true,true,true,true,true,true,true,true,true,true,true,true,true,true,true,true,false,false,false,false,false,false,false]=true:=co_T (by kernel_rfl) qcc6
def qc8:OrdT:=.cons 14 true qc7
theorem qcw8:wellOrd qc8=true:=wo_cons qcw7 rfl
theorem qcc8:chkOrd (opsI 5 Tryz.f158) qc8 8 #[true,true,true,true,true,true,true,true,true,true,true,true,true,true,false,true,true,true,false,false,false,false,false,false,false]=true:=co_T (by kernel_rfl) qcc7
def qc9:OrdT:=.cons 10 true qc8
theorem qcw9:wellOrd qc9=true:=wo_cons qcw8 rfl
theorem qcc9:chkOrd (opsI 5 Tryz.f158) qc9 9 #[true,true,true,true,true,true,true,true,true,true,false,true,true,true,false,true,true,true,false,false,false,false,false,false,false]=true:=co_T (by kernel_rfl) qcc8
def qc10:OrdT:=.cons 6 false qc4
theorem qcw10:wellOrd qc10=true:=wo_cons qcw4 rfl
theorem qcc10:chkOrd (opsI 5 Tryz.f158) qc10 5 #[true,true,true,true,true,true,false,true,true,true,true,true,true,true,true,true,true,true,true,true,true,false,false,false,false]=true:=co_F (by kernel_rfl) qcc4
def qc11:OrdT:=.last
theorem qcw11:wellOrd qc11=true:=rfl
def qc12:OrdT:=.alt 20 qc10 qc11
theorem qcw12:wellOrd qc12=true:=wo_alt qcw10 rfl qcw11 rfl
theorem qcc12:chkOrd (opsI 5 Tryz.f158) qc12 5 #[true,true,true,true,true,true,false,true,true,true,true,true,true,true,true,true,true,true,true,true,false,false,false,false,false]=true:=co_alt qcc10 rfl
def qc13:OrdT:=.alt 6 qc5 qc12
theorem qcw13:wellOrd qc13=true:=wo_alt qcw5 rfl qcw12 rfl
theorem qcc13:chkOrd (opsI 5 Tryz.f158) qc13 5 #[true,true,true,true,true,true,false,true,true,true,true,true,true,true,true,true,true,true,true,true,false,false,false,false,false]=true:=co_alt qcc5 qcc12
def qc14:OrdT:=.fork qc13
theorem qcw14:wellOrd qc14=true:=wo_fork qcw13 rfl
theorem qcc14:chkOrd (opsI 5 Tryz.f158) qc14 6 #[true,true,true,true,true,true,false,true,true,true,true,true,true,true,true,true,true,true,true,true,false,false,false,false,false]=true:=co_fork (by kernel_rfl) qcc13
def qc15:OrdT:=.last
theorem qcw15:wellOrd qc15=true:=rfl
def qc16:OrdT:=.alt 19 qc14 qc15
theorem qcw16:wellOrd qc16=true:=wo_alt qcw14 rfl qcw15 rfl
theorem qcc16:chkOrd (opsI 5 Tryz.f158) qc16 6 #[true,true,true,true,true,true,false,true,true,true,true,true,true,true,true,true,true,true,true,false,false,false,false,false,false]=true:=co_alt qcc14 rfl
def qc17:OrdT:=.alt 6 qc6 qc16
theorem qcw17:wellOrd qc17=true:=wo_alt qcw6 rfl qcw16 rfl
theorem qcc17:chkOrd (opsI 5 Tryz.f158) qc17 6 #[true,true,true,true,true,true,false,true,true,true,true,true,true,true,true,true,true,true,true,false,false,false,false,false,false]=true:=co_alt qcc6 qcc16
def qc18:OrdT:=.fork qc17
theorem qcw18:wellOrd qc18=true:=wo_fork qcw17 rfl
theorem qcc18:chkOrd (opsI 5 Tryz.f158) qc18 7 #[true,true,true,true,true,true,false,true,true,true,true,true,true,true,true,true,true,true,true,false,false,false,false,false,false]=true:=co_fork (by kernel_rfl) qcc17
def qc19:OrdT:=.last
theorem qcw19:wellOrd qc19=true:=rfl
def qc20:OrdT:=.alt 18 qc18 qc19
theorem qcw20:wellOrd qc20=true:=wo_alt qcw18 rfl qcw19 rfl
theorem qcc20:chkOrd (opsI 5 Tryz.f158) qc20 7 #[true,true,true,true,true,true,false,true,true,true,true,true,true,true,true,true,true,true,false,false,false,false,false,false,false]=true:=co_alt qcc18 rfl
def qc21:OrdT:=.alt 6 qc7 qc20
theorem qcw21:wellOrd qc21=true:=wo_alt qcw7 rfl qcw20 rfl
theorem qcc21:chkOrd (opsI 5 Tryz.f158) qc21 7 #[true,true,true,true,true,true,false,true,true,true,true,true,true,true,true,true,true,true,false,false,false,false,false,false,false]=true:=co_alt qcc7 qcc20
def qc22:OrdT:=.fork qc21
theorem qcw22:wellOrd qc22=true:=wo_fork qcw21 rfl
theorem qcc22:chkOrd (opsI 5 Tryz.f158) qc22 8 #[true,true,true,true,true,true,false,true,true,true,true,true,true,true,true,true,true,true,false,false,false,false,false,false,false]=true:=co_fork (by kernel_rfl) qcc21
def qc23:OrdT:=.cons 14 true qc6
theorem qcw23:wellOrd qc23=true:=wo_cons qcw6 rfl
theorem qcc23:chkOrd (opsI 5 Tryz.f158) qc23 7 #[true,true,true,true,true,true,true,true,true,true,true,true,true,true,false,true,true,true,true,false,false,false,false,false,false]=true:=co_T (by kernel_rfl) qcc6
def qc24:OrdT:=.last
theorem qcw24:wellOrd qc24=true:=rfl
def qc25:OrdT:=.alt 14 qc18 qc24
theorem qcw25:wellOrd qc25=true:=wo_alt qcw18 rfl qcw24 rfl
theorem qcc25:chkOrd (opsI 5 Tryz.f158) qc25 7 #[true,true,true,true,true,true,false,true,true,true,true,true,true,true,false,true,true,true,true,false,false,false,false,false,false]=true:=co_alt qcc18 rfl
def qc26:OrdT:=.alt 6 qc23 qc25
theorem qcw26:wellOrd qc26=true:=wo_alt qcw23 rfl qcw25 rfl
theorem qcc26:chkOrd (opsI 5 Tryz.f158) qc26 7 #[true,true,true,true,true,true,false,true,true,true,true,true,true,true,false,true,true,true,true,false,false,false,false,false,false]=true:=co_alt qcc23 qcc25
def qc27:OrdT:=.fork qc26
theorem qcw27:wellOrd qc27=true:=wo_fork qcw26 rfl
theorem qcc27:chkOrd (opsI 5 Tryz.f158) qc27 8 #[true,true,true,true,true,true,false,true,true,true,true,true,true,true,false,true,true,true,true,false,false,false,false,false,false]=true:=co_fork (by kernel_rfl) qcc26
def qc28:OrdT:=.last
theorem qcw28:wellOrd qc28=true:=rfl
def qc29:OrdT:=.alt 18 qc27 qc28
theorem qcw29:wellOrd qc29=true:=wo_alt qcw27 rfl qcw28 rfl
theorem qcc29:chkOrd (opsI 5 Tryz.f158) qc29 8 #[true,true,true,true,true,true,false,true,true,true,true,true,true,true,false,true,true,true,false,false,false,false,false,false,false]=true:=co_alt qcc27 rfl
def qc30:OrdT:=.alt 14 qc22 qc29
theorem qcw30:wellOrd qc30=true:=wo_alt qcw22 rfl qcw29 rfl
theorem qcc30:chkOrd (opsI 5 Tryz.f158) qc30 8 #[true,true,true,true,true,true,false,true,true,true,true,true,true,true,false,true,true,true,false,false,false,false,false,false,false]=true:=co_alt qcc22 qcc29
def qc31:OrdT:=.alt 6 qc8 qc30
theorem qcw31:wellOrd qc31=true:=wo_alt qcw8 rfl qcw30 rfl
theorem qcc31:chkOrd (opsI 5 Tryz.f158) qc31 8 #[true,true,true,true,true,true,false,true,true,true,true,true,true,true,false,true,true,true,false,false,false,false,false,false,false]=true:=co_alt qcc8 qcc30
def qc32:OrdT:=.fork qc31
theorem qcw32:wellOrd qc32=true:=wo_fork qcw31 rfl
theorem qcc32:chkOrd (opsI 5 Tryz.f158) qc32 9 #[true,true,true,true,true,true,false,true,true,true,true,true,true,true,false,true,true,true,false,false,false,false,false,false,false]=true:=co_fork (by kernel_rfl) qcc31
def qc33:OrdT:=.cons 10 true qc7
theorem qcw33:wellOrd qc33=true:=wo_cons qcw7 rfl
theorem qcc33:chkOrd (opsI 5 Tryz.f158) qc33 8 #[true,true,true,true,true,true,true,true,true,true,false,true,true,true,true,true,true,true,false,false,false,false,false,false,false]=true:=co_T (by kernel_rfl) qcc7
def qc34:OrdT:=.cons 10 true qc6
theorem qcw34:wellOrd qc34=true:=wo_cons qcw6 rfl
theorem qcc34:chkOrd (opsI 5 Tryz.f158) qc34 7 #[true,true,true,true,true,true,true,true,true,true,false,true,true,true,true,true,true,true,true,false,false,false,false,false,false]=true:=co_T (by kernel_rfl) qcc6
def qc35:OrdT:=.last
theorem qcw35:wellOrd qc35=true:=rfl
def qc36:OrdT:=.alt 10 qc18 qc35
theorem qcw36:wellOrd qc36=true:=wo_alt qcw18 rfl qcw35 rfl
theorem qcc36:chkOrd (opsI 5 Tryz.f158) qc36 7 #[true,true,true,true,true,true,false,true,true,true,false,true,true,true,true,true,true,true,true,false,false,false,false,false,false]=true:=co_alt qcc18 rfl
def qc37:OrdT:=.alt 6 qc34 qc36
theorem qcw37:wellOrd qc37=true:=wo_alt qcw34 rfl qcw36 rfl
theorem qcc37:chkOrd (opsI 5 Tryz.f158) qc37 7 #[true,true,true,true,true,true,false,true,true,true,false,true,true,true,true,true,true,true,true,false,false,false,false,false,false]=true:=co_alt qcc34 qcc36
def qc38:OrdT:=.fork qc37
theorem qcw38:wellOrd qc38=true:=wo_fork qcw37 rfl
theorem qcc38:chkOrd (opsI 5 Tryz.f158) qc38 8 #[true,true,true,true,true,true,false,true,true,true,false,true,true,true,true,true,true,true,true,false,false,false,false,false,false]=true:=co_fork (by kernel_rfl) qcc37
def qc39:OrdT:=.last
theorem qcw39:wellOrd qc39=true:=rfl
def qc40:OrdT:=.alt 18 qc38 qc39
theorem qcw40:wellOrd qc40=true:=wo_alt qcw38 rfl qcw39 rfl
theorem qcc40:chkOrd (opsI 5 Tryz.f158) qc40 8 #[true,true,true,true,true,true,false,true,true,true,false,true,true,true,true,true,true,true,false,false,false,false,false,false,false]=true:=co_alt qcc38 rfl
def qc41:OrdT:=.alt 10 qc22 qc40
theorem qcw41:wellOrd qc41=true:=wo_alt qcw22 rfl qcw40 rfl
theorem qcc41:chkOrd (opsI 5 Tryz.f158) qc41 8 #[true,true,true,true,true,true,false,true,true,true,false,true,true,true,true,true,true,true,false,false,false,false,false,false,false]=true:=co_alt qcc22 qcc40
def qc42:OrdT:=.alt 6 qc33 qc41
theorem qcw42:wellOrd qc42=true:=wo_alt qcw33 rfl qcw41 rfl
theorem qcc42:chkOrd (opsI 5 Tryz.f158) qc42 8 #[true,true,true,true,true,true,false,true,true,true,false,true,true,true,true,true,true,true,false,false,false,false,false,false,false]=true:=co_alt qcc33 qcc41
def qc43:OrdT:=.fork qc42
theorem qcw43:wellOrd qc43=true:=wo_fork qcw42 rfl
theorem qcc43:chkOrd (opsI 5 Tryz.f158) qc43 9 #[true,true,true,true,true,true,false,true,true,true,false,true,true,true,true,true,true,true,false,false,false,false,false,false,false]=true:=co_fork (by kernel_rfl) qcc42
def qc44:OrdT:=.cons 10 true qc23
theorem qcw44:wellOrd qc44=true:=wo_cons qcw23 rfl
theorem qcc44:chkOrd (opsI 5 Tryz.f158) qc44 8 #[true,true,true,true,true,true,true,true,true,true,false,true,true,true,false,true,true,true,true,false,false,false,false,false,false]=true:=co_T (by kernel_rfl) qcc23
def qc45:OrdT:=.last
theorem qcw45:wellOrd qc45=true:=rfl
def qc46:OrdT:=.alt 14 qc38 qc45
theorem qcw46:wellOrd qc46=true:=wo_alt qcw38 rfl qcw45 rfl
theorem qcc46:chkOrd (opsI 5 Tryz.f158) qc46 8 #[true,true,true,true,true,true,false,true,true,true,false,true,true,true,false,true,true,true,true,false,false,false,false,false,false]=true:=co_alt qcc38 rfl
def qc47:OrdT:=.alt 10 qc27 qc46
theorem qcw47:wellOrd qc47=true:=wo_alt qcw27 rfl qcw46 rfl
theorem qcc47:chkOrd (opsI 5 Tryz.f158) qc47 8 #[true,true,true,true,true,true,false,true,true,true,false,true,true,true,false,true,true,true,true,false,false,false,false,false,false]=true:=co_alt qcc27 qcc46
def qc48:OrdT:=.alt 6 qc44 qc47
theorem qcw48:wellOrd qc48=true:=wo_alt qcw44 rfl qcw47 rfl
theorem qcc48:chkOrd (opsI 5 Tryz.f158) qc48 8 #[true,true,true,true,true,true,false,true,true,true,false,true,true,true,false,true,true,true,true,false,false,false,false,false,false]=true:=co_alt qcc44 qcc47
def qc49:OrdT:=.fork qc48
theorem qcw49:wellOrd qc49=true:=wo_fork qcw48 rfl
theorem qcc49:chkOrd (opsI 5 Tryz.f158) qc49 9 #[true,true,true,true,true,true,false,true,true,true,false,true,true,true,false,true,true,true,true,false,false,false,false,false,false]=true:=co_fork (by kernel_rfl) qcc48
def qc50:OrdT:=.last
theorem qcw50:wellOrd qc50=true:=rfl
def qc51:OrdT:=.alt 18 qc49 qc50
theorem qcw51:wellOrd qc51=true:=wo_alt qcw49 rfl qcw50 rfl
theorem qcc51:chkOrd (opsI 5 Tryz.f158) qc51 9 #[true,true,true,true,true,true,false,true,true,true,false,true,true,true,false,true,true,true,false,false,false,false,false,false,false]=true:=co_alt qcc49 rfl
def qc52:OrdT:=.alt 14 qc43 qc51
theorem qcw52:wellOrd qc52=true:=wo_alt qcw43 rfl qcw51 rfl
theorem qcc52:chkOrd (opsI 5 Tryz.f158) qc52 9 #[true,true,true,true,true,true,false,true,true,true,false,true,true,true,false,true,true,true,false,false,false,false,false,false,false]=true:=co_alt qcc43 qcc51
def qc53:OrdT:=.alt 10 qc32 qc52
theorem qcw53:wellOrd qc53=true:=wo_alt qcw32 rfl qcw52 rfl
theorem qcc53:chkOrd (opsI 5 Tryz.f158) qc53 9 #[true,true,true,true,true,true,false,true,true,true,false,true,true,true,false,true,true,true,false,false,false,false,false,false,false]=true:=co_alt qcc32 qcc52
def qc54:OrdT:=.alt 6 qc9 qc53
theorem qcw54:wellOrd qc54=true:=wo_alt qcw9 rfl qcw53 rfl
theorem qcc54:chkOrd (opsI 5 Tryz.f158) qc54 9 #[true,true,true,true,true,true,false,true,true,true,false,true,true,true,false,true,true,true,false,false,false,false,false,false,false]=true:=co_alt qcc9 qcc53
def qc55:OrdT:=.fork qc54
theorem qcw55:wellOrd qc55=true:=wo_fork qcw54 rfl
theorem qcc55:chkOrd (opsI 5 Tryz.f158) qc55 10 #[true,true,true,true,true,true,false,true,true,true,false,true,true,true,false,true,true,true,false,false,false,false,false,false,false]=true:=co_fork (by kernel_rfl) qcc54
def qc56:OrdT:=.cons 1 false qc10
theorem qcw56:wellOrd qc56=true:=wo_cons qcw10 rfl
theorem qcc56:chkOrd (opsI 5 Tryz.f158) qc56 6 #[true,false,true,true,true,true,false,true,true,true,true,true,true,true,true,true,true,true,true,true,true,false,false,false,false]=true:=co_F (by kernel_rfl) qcc10
def qc57:OrdT:=.last
theorem qcw57:wellOrd qc57=true:=rfl
def qc58:OrdT:=.alt 20 qc56 qc57
theorem qcw58:wellOrd qc58=true:=wo_alt qcw56 rfl qcw57 rfl
theorem qcc58:chkOrd (opsI 5 Tryz.f158) qc58 6 #[true,false,true,true,true,true,false,true,true,true,true,true,true,true,true,true,true,true,true,true,false,false,false,false,false]=true:=co_alt qcc56 rfl
def qc59:OrdT:=.alt 1 qc14 qc58
theorem qcw59:wellOrd qc59=true:=wo_alt qcw14 rfl qcw58 rfl
theorem qcc59:chkOrd (opsI 5 Tryz.f158) qc59 6 #[true,false,true,true,true,true,false,true,true,true,true,true,true,true,true,true,true,true,true,true,false,false,false,false,false]=true:=co_alt qcc14 qcc58
def qc60:OrdT:=.fork qc59
theorem qcw60:wellOrd qc60=true:=wo_fork qcw59 rfl
theorem qcc60:chkOrd (opsI 5 Tryz.f158) qc60 7 #[true,false,true,true,true,true,false,true,true,true,true,true,true,true,true,true,true,true,true,true,false,false,false,false,false]=true:=co_fork (by kernel_rfl) qcc59
def qc61:OrdT:=.last
theorem qcw61:wellOrd qc61=true:=rfl
def qc62:OrdT:=.alt 19 qc60 qc61
theorem qcw62:wellOrd qc62=true:=wo_alt qcw60 rfl qcw61 rfl
theorem qcc62:chkOrd (opsI 5 Tryz.f158) qc62 7 #[true,false,true,true,true,true,false,true,true,true,true,true,true,true,true,true,true,true,true,false,false,false,false,false,false]=true:=co_alt qcc60 rfl
def qc63:OrdT:=.alt 1 qc18 qc62
theorem qcw63:wellOrd qc63=true:=wo_alt qcw18 rfl qcw62 rfl
theorem qcc63:chkOrd (opsI 5 Tryz.f158) qc63 7 #[true,false,true,true,true,true,false,true,true,true,true,true,true,true,true,true,true,true,true,false,false,false,false,false,false]=true:=co_alt qcc18 qcc62
def qc64:OrdT:=.fork qc63
theorem qcw64:wellOrd qc64=true:=wo_fork qcw63 rfl
theorem qcc64:chkOrd (opsI 5 Tryz.f158) qc64 8 #[true,false,true,true,true,true,false,true,true,true,true,true,true,true,true,true,true,true,true,false,false,false,false,false,false]=true:=co_fork (by kernel_rfl) qcc63
def qc65:OrdT:=.last
theorem qcw65:wellOrd qc65=true:=rfl
def qc66:OrdT:=.alt 18 qc64 qc65
theorem qcw66:wellOrd qc66=true:=wo_alt qcw64 rfl qcw65 rfl
theorem qcc66:chkOrd (opsI 5 Tryz.f158) qc66 8 #[true,false,true,true,true,true,false,true,true,true,true,true,true,true,true,true,true,true,false,false,false,false,false,false,false]=true:=co_alt qcc64 rfl
def qc67:OrdT:=.alt 1 qc22 qc66
theorem qcw67:wellOrd qc67=true:=wo_alt qcw22 rfl qcw66 rfl
theorem qcc67:chkOrd (opsI 5 Tryz.f158) qc67 8 #[true,false,true,true,true,true,false,true,true,true,true,true,true,true,true,true,true,true,false,false,false,false,false,false,false]=true:=co_alt qcc22 qcc66
def qc68:OrdT:=.fork qc67
theorem qcw68:wellOrd qc68=true:=wo_fork qcw67 rfl
theorem qcc68:chkOrd (opsI 5 Tryz.f158) qc68 9 #[true,false,true,true,true,true,false,true,true,true,true,true,true,true,true,true,true,true,false,false,false,false,false,false,false]=true:=co_fork (by kernel_rfl) qcc67
def qc69:OrdT:=.last
theorem qcw69:wellOrd qc69=true:=rfl
def qc70:OrdT:=.alt 14 qc64 qc69
theorem qcw70:wellOrd qc70=true:=wo_alt qcw64 rfl qcw69 rfl
theorem qcc70:chkOrd (opsI 5 Tryz.f158) qc70 8 #[true,false,true,true,true,true,false,true,true,true,true,true,true,true,false,true,true,true,true,false,false,false,false,false,false]=true:=co_alt qcc64 rfl
def qc71:OrdT:=.alt 1 qc27 qc70
theorem qcw71:wellOrd qc71=true:=wo_alt qcw27 rfl qcw70 rfl
theorem qcc71:chkOrd (opsI 5 Tryz.f158) qc71 8 #[true,false,true,true,true,true,false,true,true,true,true,true,true,true,false,true,true,true,true,false,false,false,false,false,false]=true:=co_alt qcc27 qcc70
def qc72:OrdT:=.fork qc71
theorem qcw72:wellOrd qc72=true:=wo_fork qcw71 rfl
theorem qcc72:chkOrd (opsI 5 Tryz.f158) qc72 9 #[true,false,true,true,true,true,false,true,true,true,true,true,true,true,false,true,true,true,true,false,false,false,false,false,false]=true:=co_fork (by kernel_rfl) qcc71
def qc73:OrdT:=.last
theorem qcw73:wellOrd qc73=true:=rfl
def qc74:OrdT:=.alt 18 qc72 qc73
theorem qcw74:wellOrd qc74=true:=wo_alt qcw72 rfl qcw73 rfl
theorem qcc74:chkOrd (opsI 5 Tryz.f158) qc74 9 #[true,false,true,true,true,true,false,true,true,true,true,true,true,true,false,true,true,true,false,false,false,false,false,false,false]=true:=co_alt qcc72 rfl
def qc75:OrdT:=.alt 14 qc68 qc74
theorem qcw75:wellOrd qc75=true:=wo_alt qcw68 rfl qcw74 rfl
theorem qcc75:chkOrd (opsI 5 Tryz.f158) qc75 9 #[true,false,true,true,true,true,false,true,true,true,true,true,true,true,false,true,true,true,false,false,false,false,false,false,false]=true:=co_alt qcc68 qcc74
def qc76:OrdT:=.alt 1 qc32 qc75
theorem qcw76:wellOrd qc76=true:=wo_alt qcw32 rfl qcw75 rfl
theorem qcc76:chkOrd (opsI 5 Tryz.f158) qc76 9 #[true,false,true,true,true,true,false,true,true,true,true,true,true,true,false,true,true,true,false,false,false,false,false,false,false]=true:=co_alt qcc32 qcc75
def qc77:OrdT:=.fork qc76
theorem qcw77:wellOrd qc77=true:=wo_fork qcw76 rfl
theorem qcc77:chkOrd (opsI 5 Tryz.f158) qc77 10 #[true,false,true,true,true,true,false,true,true,true,true,true,true,true,false,true,true,true,false,false,false,false,false,false,false]=true:=co_fork (by kernel_rfl) qcc76
def qc78:OrdT:=.last
theorem qcw78:wellOrd qc78=true:=rfl
def qc79:OrdT:=.alt 10 qc64 qc78
theorem qcw79:wellOrd qc79=true:=wo_alt qcw64 rfl qcw78 rfl
theorem qcc79:chkOrd (opsI 5 Tryz.f158) qc79 8 #[true,false,true,true,true,true,false,true,true,true,false,true,true,true,true,true,true,true,true,false,false,false,false,false,false]=true:=co_alt qcc64 rfl
def qc80:OrdT:=.alt 1 qc38 qc79
theorem qcw80:wellOrd qc80=true:=wo_alt qcw38 rfl qcw79 rfl
theorem qcc80:chkOrd (opsI 5 Tryz.f158) qc80 8 #[true,false,true,true,true,true,false,true,true,true,false,true,true,true,true,true,true,true,true,false,false,false,false,false,false]=true:=co_alt qcc38 qcc79
def qc81:OrdT:=.fork qc80
theorem qcw81:wellOrd qc81=true:=wo_fork qcw80 rfl
theorem qcc81:chkOrd (opsI 5 Tryz.f158) qc81 9 #[true,false,true,true,true,true,false,true,true,true,false,true,true,true,true,true,true,true,true,false,false,false,false,false,false]=true:=co_fork (by kernel_rfl) qcc80
def qc82:OrdT:=.last
theorem qcw82:wellOrd qc82=true:=rfl
def qc83:OrdT:=.alt 18 qc81 qc82
theorem qcw83:wellOrd qc83=true:=wo_alt qcw81 rfl qcw82 rfl
theorem qcc83:chkOrd (opsI 5 Tryz.f158) qc83 9 #[true,false,true,true,true,true,false,true,true,true,false,true,true,true,true,true,true,true,false,false,false,false,false,false,false]=true:=co_alt qcc81 rfl
def qc84:OrdT:=.alt 10 qc68 qc83
theorem qcw84:wellOrd qc84=true:=wo_alt qcw68 rfl qcw83 rfl
theorem qcc84:chkOrd (opsI 5 Tryz.f158) qc84 9 #[true,false,true,true,true,true,false,true,true,true,false,true,true,true,true,true,true,true,false,false,false,false,false,false,false]=true:=co_alt qcc68 qcc83
def qc85:OrdT:=.alt 1 qc43 qc84
theorem qcw85:wellOrd qc85=true:=wo_alt qcw43 rfl qcw84 rfl
theorem qcc85:chkOrd (opsI 5 Tryz.f158) qc85 9 #[true,false,true,true,true,true,false,true,true,true,false,true,true,true,true,true,true,true,false,false,false,false,false,false,false]=true:=co_alt qcc43 qcc84
def qc86:OrdT:=.fork qc85
theorem qcw86:wellOrd qc86=true:=wo_fork qcw85 rfl
theorem qcc86:chkOrd (opsI 5 Tryz.f158) qc86 10 #[true,false,true,true,true,true,false,true,true,true,false,true,true,true,true,true,true,true,false,false,false,false,false,false,false]=true:=co_fork (by kernel_rfl) qcc85
def qc87:OrdT:=.last
theorem qcw87:wellOrd qc87=true:=rfl
def qc88:OrdT:=.alt 14 qc81 qc87
theorem qcw88:wellOrd qc88=true:=wo_alt qcw81 rfl qcw87 rfl
theorem qcc88:chkOrd (opsI 5 Tryz.f158) qc88 9 #[true,false,true,true,true,true,false,true,true,true,false,true,true,true,false,true,true,true,true,false,false,false,false,false,false]=true:=co_alt qcc81 rfl
def qc89:OrdT:=.alt 10 qc72 qc88
theorem qcw89:wellOrd qc89=true:=wo_alt qcw72 rfl qcw88 rfl
theorem qcc89:chkOrd (opsI 5 Tryz.f158) qc89 9 #[true,false,true,true,true,true,false,true,true,true,false,true,true,true,false,true,true,true,true,false,false,false,false,false,false]=true:=co_alt qcc72 qcc88
def qc90:OrdT:=.alt 1 qc49 qc89
theorem qcw90:wellOrd qc90=true:=wo_alt qcw49 rfl qcw89 rfl
theorem qcc90:chkOrd (opsI 5 Tryz.f158) qc90 9 #[true,false,true,true,true,true,false,true,true,true,false,true,true,true,false,true,true,true,true,false,false,false,false,false,false]=true:=co_alt qcc49 qcc89
def qc91:OrdT:=.fork qc90
theorem qcw91:wellOrd qc91=true:=wo_fork qcw90 rfl
theorem qcc91:chkOrd (opsI 5 Tryz.f158) qc91 10 #[true,false,true,true,true,true,false,true,true,true,false,true,true,true,false,true,true,true,true,false,false,false,false,false,false]=true:=co_fork (by kernel_rfl) qcc90
def qc92:OrdT:=.last
theorem qcw92:wellOrd qc92=true:=rfl
def qc93:OrdT:=.alt 18 qc91 qc92
theorem qcw93:wellOrd qc93=true:=wo_alt qcw91 rfl qcw92 rfl
theorem qcc93:chkOrd (opsI 5 Tryz.f158) qc93 10 #[true,false,true,true,true,true,false,true,true,true,false,true,true,true,false,true,true,true,false,false,false,false,false,false,false]=true:=co_alt qcc91 rfl
def qc94:OrdT:=.alt 14 qc86 qc93
theorem qcw94:wellOrd qc94=true:=wo_alt qcw86 rfl qcw93 rfl
theorem qcc94:chkOrd (opsI 5 Tryz.f158) qc94 10 #[true,false,true,true,true,true,false,true,true,true,false,true,true,true,false,true,true,true,false,false,false,false,false,false,false]=true:=co_alt qcc86 qcc93
def qc95:OrdT:=.alt 10 qc77 qc94
theorem qcw95:wellOrd qc95=true:=wo_alt qcw77 rfl qcw94 rfl
theorem qcc95:chkOrd (opsI 5 Tryz.f158) qc95 10 #[true,false,true,true,true,true,false,true,true,true,false,true,true,true,false,true,true,true,false,false,false,false,false,false,false]=true:=co_alt qcc77 qcc94
def qc96:OrdT:=.alt 1 qc55 qc95
theorem qcw96:wellOrd qc96=true:=wo_alt qcw55 rfl qcw95 rfl
theorem qcc96:chkOrd (opsI 5 Tryz.f158) qc96 10 #[true,false,true,true,true,true,false,true,true,true,false,true,true,true,false,true,true,true,false,false,false,false,false,false,false]=true:=co_alt qcc55 qcc95
def qc97:OrdT:=.fork qc96
theorem qcw97:wellOrd qc97=true:=wo_fork qcw96 rfl
theorem qcc97:chkOrd (opsI 5 Tryz.f158) qc97 11 #[true,false,true,true,true,true,false,true,true,true,false,true,true,true,false,true,true,true,false,false,false,false,false,false,false]=true:=co_fork (by kernel_rfl) qcc96
def qc98:OrdT:=.cons 17 true qc97
theorem qcw98:wellOrd qc98=true:=wo_cons qcw97 rfl
theorem qcc98:chkOrd (opsI 5 Tryz.f158) qc98 12 #[true,false,true,true,true,true,false,true,true,true,false,true,true,true,false,true,true,false,false,false,false,false,false,false,false]=true:=co_T (by kernel_rfl) qcc97
def qc99:OrdT:=.cons 16 true qc98
theorem qcw99:wellOrd qc99=true:=wo_cons qcw98 rfl
theorem qcc99:chkOrd (opsI 5 Tryz.f158) qc99 13 #[true,false,true,true,true,true,false,true,true,true,false,true,true,true,false,true,false,false,false,false,false,false,false,false,false]=true:=co_T (by kernel_rfl) qcc98
def qc100:OrdT:=.cons 15 true qc99
theorem qcw100:wellOrd qc100=true:=wo_cons qcw99 rfl
theorem qcc100:chkOrd (opsI 5 Tryz.f158) qc100 14 #[true,false,true,true,true,true,false,true,true,true,false,true,true,true,false,false,false,false,false,false,false,false,false,false,false]=true:=co_T (by kernel_rfl) qcc99
def qc101:OrdT:=.cons 13 true qc100
theorem qcw101:wellOrd qc101=true:=wo_cons qcw100 rfl
theorem qcc101:chkOrd (opsI 5 Tryz.f158) qc101 15 #[true,false,true,true,true,true,false,true,true,true,false,true,true,false,false,false,false,false,false,false,false,false,false,false,false]=true:=co_T (by kernel_rfl) qcc100
def qc102:OrdT:=.cons 12 true qc101
theorem qcw102:wellOrd qc102=true:=wo_cons qcw101 rfl
theorem qcc102:chkOrd (opsI 5 Tryz.f158) qc102 16 #[true,false,true,true,true,true,false,true,true,true,false,true,false,false,false,false,false,false,false,false,false,false,false,false,false]=true:=co_T (by kernel_rfl) qcc101
def qc103:OrdT:=.cons 11 true qc102
theorem qcw103:wellOrd qc103=true:=wo_cons qcw102 rfl
theorem qcc103:chkOrd (opsI 5 Tryz.f158) qc103 17 #[true,false,true,true,true,true,false,true,true,true,false,false,false,false,false,false,false,false,false,false,false,false,false,false,false]=true:=co_T (by kernel_rfl) qcc102
def qc104:OrdT:=.cons 9 true qc103
theorem qcw104:wellOrd qc104=true:=wo_cons qcw103 rfl
theorem qcc104:chkOrd (opsI 5 Tryz.f158) qc104 18 #[true,false,true,true,true,true,false,true,true,false,false,false,false,false,false,false,false,false,false,false,false,false,false,false,false]=true:=co_T (by kernel_rfl) qcc103
def qc105:OrdT:=.cons 8 true qc104
theorem qcw105:wellOrd qc105=true:=wo_cons qcw104 rfl
theorem qcc105:chkOrd (opsI 5 Tryz.f158) qc105 19 #[true,false,true,true,true,true,false,true,false,false,false,false,false,false,false,false,false,false,false,false,false,false,false,false,false]=true:=co_T (by kernel_rfl) qcc104
def qc106:OrdT:=.cons 7 true qc105
theorem qcw106:wellOrd qc106=true:=wo_cons qcw105 rfl
theorem qcc106:chkOrd (opsI 5 Tryz.f158) qc106 20 #[true,false,true,true,true,true,false,false,false,false,false,false,false,false,false,false,false,false,false,false,false,false,false,false,false]=true:=co_T (by kernel_rfl) qcc105
def qc107:OrdT:=.cons 5 true qc106
theorem qcw107:wellOrd qc107=true:=wo_cons qcw106 rfl
theorem qcc107:chkOrd (opsI 5 Tryz.f158) qc107 21 #[true,false,true,true,true,false,false,false,false,false,false,false,false,false,false,false,false,false,false,false,false,false,false,false,false]=true:=co_T (by kernel_rfl) qcc106
def qc108:OrdT:=.cons 4 true qc107
theorem qcw108:wellOrd qc108=true:=wo_cons qcw107 rfl
theorem qcc108:chkOrd (opsI 5 Tryz.f158) qc108 22 #[true,false,true,true,false,false,false,false,false,false,false,false,false,false,false,false,false,false,false,false,false,false,false,false,false]=true:=co_T (by kernel_rfl) qcc107
def qc109:OrdT:=.cons 3 true qc108
theorem qcw109:wellOrd qc109=true:=wo_cons qcw108 rfl
theorem qcc109:chkOrd (opsI 5 Tryz.f158) qc109 23 #[true,false,true,false,false,false,false,false,false,false,false,false,false,false,false,false,false,false,false,false,false,false,false,false,false]=true:=co_T (by kernel_rfl) qcc108
def qc110:OrdT:=.cons 2 true qc109
theorem qcw110:wellOrd qc110=true:=wo_cons qcw109 rfl
theorem qcc110:chkOrd (opsI 5 Tryz.f158) qc110 24 #[true,false,false,false,false,false,false,false,false,false,false,false,false,false,false,false,false,false,false,false,false,false,false,false,false]=true:=co_T (by kernel_rfl) qcc109
def qc111:OrdT:=.cons 0 true qc110
theorem qcw111:wellOrd qc111=true:=wo_cons qcw110 rfl
theorem qcc111:chkOrd (opsI 5 Tryz.f158) qc111 25 #[false,false,false,false,false,false,false,false,false,false,false,false,false,false,false,false,false,false,false,false,false,false,false,false,false]=true:=co_T (by kernel_rfl) qcc110
theorem qc_all:(Region.noSelect (opsI 5 Tryz.f158) && (wellOrd qc111 && !isAlt qc111) && chkOrd (opsI 5 Tryz.f158) qc111 (opsI 5 Tryz.f158).size (Array.replicate (opsI 5 Tryz.f158).size false))=true:=by
 have e:(opsI 5 Tryz.f158).size=25:=by kernel_rfl
 have e2:Array.replicate 25 false = #[false,false,false,false,false,false,false,false,false,false,false,false,false,false,false,false,false,false,false,false,false,false,false,false,false]:=by kernel_rfl
 have e3:Region.noSelect (opsI 5 Tryz.f158)=true:=by kernel_rfl
 have e4:isAlt qc111=false:=rfl
 rw [e,e2,e3,e4,qcw111,qcc111];rfl
set_option linter.unusedSimpArgs false
set_option maxRecDepth 20000 in
set_option maxHeartbeats 8000000 in
theorem con_callS (m : Mch) (hl : m.st.length ≤ 90000) (hc : ∀ v ∈ m.st, v.c.length ≤ 90000) (hf : m.fr.length ≤ 90000) : ConP Tryz.prog 158 [.p (mcS m 0)] [mcS (callM m).2 (callM m).1] [] := by
  unfold callM
  have hst := hl
  by_cases h : m.st.length < 2
  · rw [if_pos h]
    have hP := con_popS0 m 2 (by omega) (by omega) h
    rw [vc2] at hP
    unfold mcS at hP ⊢
    refine con_runP Tryz.func158 rfl rfl (by simp [Tryz.ntmps158]) rfl ?_
    refine byP Tryz.ntmps158 ?_
    refine sw_callPR (hP) rfl rfl rfl ?_ ?_ ?_ (sw_run 200 _ _ _ ?_)
    · exact byQ True.intro
    · exact byQ True.intro
    · exact byQ True.intro
    exact byP Tryz.results158 True.intro
  rw [if_neg h]
  have hP := con_popS1 m 2 (by omega) (by omega) (by omega)
  rw [vc2] at hP
  obtain ⟨tp, htp⟩ : ∃ tp, tp = topM m 2 := ⟨_, rfl⟩
  have htl : tp.length = 2 := by rw [htp, top_len]; omega
  have hcc : ∀ v ∈ tp, v.c.length ≤ 90000 := fun v hv => hc v (by rw [htp] at hv; exact List.mem_of_mem_drop hv)
  have hpc : (popM m 2).pc = m.pc := rfl
  have hpn : (popM m 2).nm = m.nm := rfl
  have hpf : (popM m 2).fr = m.fr := rfl
  unfold mcS at hP
  rw [hpc, hpn, hpf] at hP
  rw [← htp] at hP ⊢
  rw [list_two htl] at hP hcc ⊢
  generalize tp[0]! = a at hP hcc ⊢
  generalize tp[1]! = b at hP hcc ⊢
  have e1 := vlS_eq a
  have e2 := vlS_eq b
  have hr := rowS2a a b
  have hr2 := rowS2b a b
  have e0 : [a, b][0]! = a := rfl
  have e00 : [a, b][1]! = b := rfl
  have ef : flC vlS [a, b] = vlS a ++ vlS b := by simp only [flC, List.append_nil]
  have hal := hcc a (by simp)
  rw [ef] at hP
  rw [e0, e00]
  simp only [List.length_cons, List.length_nil, Nat.zero_add, Nat.reduceAdd] at hP
  cases ha : a.f with
  | false =>
    rw [if_pos rfl]
    unfold mcS
    rw [hpc, hpn, hpf]
    simp only [e1, e2, ha, List.cons_append, List.nil_append] at hr hr2 hP
    refine con_runP Tryz.func158 rfl rfl (by simp [Tryz.ntmps158]) rfl ?_
    refine byP Tryz.ntmps158 ?_
    refine sw_callPR (hP) rfl rfl rfl ?_ ?_ ?_ (sw_run 200 _ _ _ ?_)
    · exact byQ True.intro
    · exact byQ True.intro
    · exact byQ True.intro
    exact byP (fc hr (fc vc2 Tryz.results158)) True.intro
  | true =>
    rw [if_neg (by simp)]
    rw [mp_eq ha] at e1
    have hfa : flC frS (m.fr ++ [⟨m.pc, (popM m 2).st, m.nm⟩]) = flC frS m.fr ++ [.int m.pc, .rows 4 (popM m 2).st.length (flC vlS (popM m 2).st), .rows 4 m.nm.length (flC vlS m.nm)] := by rw [flC_app, flC_one]; rfl
    generalize (popM m 2).st = st2 at hP hfa ⊢
    unfold mcS
    simp only
    rw [hfa, List.length_append, List.length_singleton]
    simp only [flC, List.length_nil]
    have hn : callN a b = (if a.r = true then a.c ++ [a] else a.c) ++ [b] := rfl
    rw [hn]
    simp only [e1, e2, ha, List.cons_append, List.nil_append] at hr hr2 hP
    refine con_runPF [5, 9, 10, 11, 12] Tryz.func158 rfl rfl (by simp [Tryz.ntmps158]) rfl ?_
    refine byP Tryz.ntmps158 ?_
    refine sw_callPR (hP) rfl rfl rfl ?_ ?_ ?_ (sw_run 200 _ _ _ ?_)
    · exact byQ True.intro
    · exact byQ True.intro
    · exact byQ True.intro
    refine byP (fc hr vc2) ?_
    refine sw_drawnK (⟨74, [(2, .br (.rows 4 2 [.bool true, .int a.p, .bool a.r, .rows 4 a.c.length (flC vlS a.c), .bool b.f, .int b.m, .bool b.r, .rows 4 b.c.length (flC vlS b.c)])), (4, .bx 1 0), (0, .bx 0 0)], [(0, [.i m.pc, .br (.rows 4 st2.length (flC vlS st2)), .br (.rows 4 m.nm.length (flC vlS m.nm)), .sl 5, .i 0]), (1, [.b true, .i a.p, .b a.r, .br (.rows 4 a.c.length (flC vlS a.c))])], [(5, some ⟨.rows 3 (m.fr.length + 1) (flC frS m.fr ++ [.int m.pc, .rows 4 st2.length (flC vlS st2), .rows 4 m.nm.length (flC vlS m.nm)]), some 230, false⟩)], 6, [0]⟩) qc111 (by kernel_rfl) qc_all (sw_run 200 _ _ _ ?_) (sw_run 200 _ _ _ ?_)
    · simp only [push_cast, ↓reduceIte, Nat.reduceLT, Nat.reduceAdd, Nat.reduceLeDiff, Nat.reduceEqDiff, reduceCtorEq, qc0, qc1, qc2, qc3, qc4, qc5, qc6, qc7, qc8, qc9, qc10, qc11, qc12, qc13, qc14, qc15, qc16, qc17, qc18, qc19, qc20, qc21, qc22, qc23, qc24, qc25, qc26, qc27, qc28, qc29, qc30, qc31, qc32, qc33, qc34, qc35, qc36, qc37, qc38, qc39, qc40, qc41, qc42, qc43, qc44, qc45, qc46, qc47, qc48, qc49, qc50, qc51, qc52, qc53, qc54, qc55, qc56, qc57, qc58, qc59, qc60, qc61, qc62, qc63, qc64, qc65, qc66, qc67, qc68, qc69, qc70, qc71, qc72, qc73, qc74, qc75, qc76, qc77, qc78, qc79, qc80, qc81, qc82, qc83, qc84, qc85, qc86, qc87, qc88, qc89, qc90, qc91, qc92, qc93, qc94, qc95, qc96, qc97, qc98, qc99, qc100, qc101, qc102, qc103, qc104, qc105, qc106, qc107, qc108, qc109, qc110, qc111]
      (try repeat' (with_reducible apply And.intro))
      all_goals first
        | (refine ⟨rfl, id, ?_⟩; simp only [push_cast, Sub, subT, subB, subO, subP, inj, AV.ren, AV.rens, AV.lt, AV.lts, ↓reduceIte, Nat.reduceLT, Nat.reduceEqDiff, reduceCtorEq]; done)
        | (intro o h; first | trivial | (intro h2; omega) | omega)
        | (unfold maxLen; omega)
        | omega
        | kernel_rfl
    cases hrr : a.r with
    | false =>
      rw [if_neg (by simp), flC_app, flC_one, e2, List.length_append, List.length_singleton]
      simp only [hrr] at hr hr2
      refine byP (fc hr2 (fc vc2 Tryz.results158)) ?_
      (try repeat' (with_reducible apply And.intro))
      all_goals first | (intro o h; first | trivial | (intro h2; omega) | omega) | (unfold maxLen; omega) | (unfold inI; omega) | omega | trivial
    | true =>
      rw [if_pos rfl, flC_app, flC_app, flC_one, flC_one, e2, e1, List.length_append, List.length_append, List.length_singleton, List.length_singleton]
      simp only [hrr] at hr hr2
      refine byP (fc ha (fc hrr (fc hr2 (fc vc2 Tryz.results158)))) ?_
      (try repeat' (with_reducible apply And.intro))
      all_goals first | (intro o h; first | trivial | (intro h2; omega) | omega) | (unfold maxLen; omega) | (unfold inI; omega) | omega | trivial
end Go.Proofs.YtaidalilfmjfgaaGreat
