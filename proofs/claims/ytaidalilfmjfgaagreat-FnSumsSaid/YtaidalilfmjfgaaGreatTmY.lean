import Derived.Test.YtaidalilfmjfgaaGreatTmX
import Derived.Test.YtaidalilfmjfgaaGreatBy
namespace Go.Proofs.YtaidalilfmjfgaaGreat
open Go.RowKit
set_option linter.unusedVariables false
set_option maxRecDepth 20000
theorem ck_T {ops:Array Oper} {r:OrdT} {n i:Nat} {listed:Array Bool} (h:((Region.ready .any ops listed).contains i && Region.free .any ops listed i && !lateAt ops i && (pureAt ops i || (List.range ops.size).all fun j=>listed.getD j true || !lateAt ops j || j == i || waits ops listed i ops.size j))=true) (h2:chkOrd ops r n (listed.setIfInBounds i true)=true):chkOrd ops (.cons i true r) (n+1) listed=true:=by
 rw [chkOrd,h,h2];rfl
theorem ck_F {ops:Array Oper} {r:OrdT} {n i:Nat} {listed:Array Bool} (h:(Region.ready .any ops listed == [i])=true) (h2:chkOrd ops r n (listed.setIfInBounds i true)=true):chkOrd ops (.cons i false r) (n+1) listed=true:=by
 rw [chkOrd,h,h2];rfl
theorem ck_fork {ops:Array Oper} {l:OrdT} {n:Nat} {listed:Array Bool} (h:(!(Region.ready .any ops listed).isEmpty && ((Region.ready .any ops listed).all fun i=>(altsOf l).contains i))=true) (h2:chkOrd ops l n listed=true):chkOrd ops (.fork l) (n+1) listed=true:=by
 rw [chkOrd,h,h2];rfl
theorem ck_alt {ops:Array Oper} {r l:OrdT} {n i:Nat} {listed:Array Bool} (h:chkOrd ops r n (listed.setIfInBounds i true)=true) (h2:chkOrd ops l n listed=true):chkOrd ops (.alt i r l) n listed=true:=by
 rw [chkOrd,h,h2];rfl
theorem wl_cons {i:Nat} {b:Bool} {r:OrdT} (h:wellOrd r=true) (h2:isAlt r=false):wellOrd (.cons i b r)=true:=by rw [wellOrd,h,h2];rfl
theorem wl_fork {l:OrdT} (h:wellOrd l=true) (h2:isAlt l=true):wellOrd (.fork l)=true:=by rw [wellOrd,h,h2];rfl
theorem wl_alt {i:Nat} {r l:OrdT} (h:wellOrd r=true) (h2:isAlt r=false) (h3:wellOrd l=true) (h4:isAlt l=true):wellOrd (.alt i r l)=true:=by rw [wellOrd,h,h2,h3,h4];rfl
def opsOf (id:Nat):Code→Option (Array Oper)
 | .region i ops _=>if i=id then some ops else none
 | .seq a b=>(opsOf id a).orElse fun _=>opsOf id b
 | .cond _ a b=>(opsOf id a).orElse fun _=>opsOf id b
 | .block _ c=>opsOf id c
 | .loop c=>opsOf id c
 | _=>none
def opsG (f:Func):Array Oper:=(f.body.bind (opsOf 16)).getD #[]
def oF0:OrdT:=.nil
theorem w0:wellOrd oF0=true:=rfl
theorem c0:chkOrd (opsG Tryz.f187) oF0 0 #[true,true,true,true,true,true,true,true,true,true,true,true,true,true,true,true]=true:=by kernel_rfl
def oF1:OrdT:=.cons 15 false oF0
theorem w1:wellOrd oF1=true:=wl_cons w0 rfl
theorem c1:chkOrd (opsG Tryz.f187) oF1 1 #[true,true,true,true,true,true,true,true,true,true,true,true,true,true,true,false]=true:=ck_F (by kernel_rfl) c0
def oF2:OrdT:=.cons 14 true oF1
theorem w2:wellOrd oF2=true:=wl_cons w1 rfl
theorem c2:chkOrd (opsG Tryz.f187) oF2 2 #[true,true,true,true,true,true,true,true,true,true,true,true,true,true,false,false]=true:=ck_T (by kernel_rfl) c1
def oF3:OrdT:=.cons 13 false oF2
theorem w3:wellOrd oF3=true:=wl_cons w2 rfl
theorem c3:chkOrd (opsG Tryz.f187) oF3 3 #[true,true,true,true,true,true,true,true,true,true,true,true,true,false,false,false]=true:=ck_F (by kernel_rfl) c2
def oF4:OrdT:=.cons 12 true oF3
theorem w4:wellOrd oF4=true:=wl_cons w3 rfl
theorem c4:chkOrd (opsG Tryz.f187) oF4 4 #[true,true,true,true,true,true,true,true,true,true,true,true,false,false,false,false]=true:=ck_T (by kernel_rfl) c3
def oF5:OrdT:=.cons 11 false oF4
theorem w5:wellOrd oF5=true:=wl_cons w4 rfl
theorem c5:chkOrd (opsG Tryz.f187) oF5 5 #[true,true,true,true,true,true,true,true,true,true,true,false,false,false,false,false]=true:=ck_F (by kernel_rfl) c4
def oF6:OrdT:=.cons 10 true oF5
theorem w6:wellOrd oF6=true:=wl_cons w5 rfl
theorem c6:chkOrd (opsG Tryz.f187) oF6 6 #[true,true,true,true,true,true,true,true,true,true,false,false,false,false,false,false]=true:=ck_T (by kernel_rfl) c5
def oF7:OrdT:=.cons 9 false oF6
theorem w7:wellOrd oF7=true:=wl_cons w6 rfl
theorem c7:chkOrd (opsG Tryz.f187) oF7 7 #[true,true,true,true,true,true,true,true,true,false,false,false,false,false,false,false]=true:=ck_F (by kernel_rfl) c6
def oF8:OrdT:=.cons 7 true oF2
theorem w8:wellOrd oF8=true:=wl_cons w2 rfl
theorem c8:chkOrd (opsG Tryz.f187) oF8 3 #[true,true,true,true,true,true,true,false,true,true,true,true,true,true,false,false]=true:=ck_T (by kernel_rfl) c2
def oF9:OrdT:=.last
theorem w9:wellOrd oF9=true:=rfl
def oF10:OrdT:=.alt 13 oF8 oF9
theorem w10:wellOrd oF10=true:=wl_alt w8 rfl w9 rfl
theorem c10:chkOrd (opsG Tryz.f187) oF10 3 #[true,true,true,true,true,true,true,false,true,true,true,true,true,false,false,false]=true:=ck_alt c8 rfl
def oF11:OrdT:=.alt 7 oF3 oF10
theorem w11:wellOrd oF11=true:=wl_alt w3 rfl w10 rfl
theorem c11:chkOrd (opsG Tryz.f187) oF11 3 #[true,true,true,true,true,true,true,false,true,true,true,true,true,false,false,false]=true:=ck_alt c3 c10
def oF12:OrdT:=.fork oF11
theorem w12:wellOrd oF12=true:=wl_fork w11 rfl
theorem c12:chkOrd (opsG Tryz.f187) oF12 4 #[true,true,true,true,true,true,true,false,true,true,true,true,true,false,false,false]=true:=ck_fork (by kernel_rfl) c11
def oF13:OrdT:=.cons 12 true oF12
theorem w13:wellOrd oF13=true:=wl_cons w12 rfl
theorem c13:chkOrd (opsG Tryz.f187) oF13 5 #[true,true,true,true,true,true,true,false,true,true,true,true,false,false,false,false]=true:=ck_T (by kernel_rfl) c12
def oF14:OrdT:=.alt 11 oF13 oF9
theorem w14:wellOrd oF14=true:=wl_alt w13 rfl w9 rfl
theorem c14:chkOrd (opsG Tryz.f187) oF14 5 #[true,true,true,true,true,true,true,false,true,true,true,false,false,false,false,false]=true:=ck_alt c13 rfl
def oF15:OrdT:=.alt 7 oF5 oF14
theorem w15:wellOrd oF15=true:=wl_alt w5 rfl w14 rfl
theorem c15:chkOrd (opsG Tryz.f187) oF15 5 #[true,true,true,true,true,true,true,false,true,true,true,false,false,false,false,false]=true:=ck_alt c5 c14
def oF16:OrdT:=.fork oF15
theorem w16:wellOrd oF16=true:=wl_fork w15 rfl
theorem c16:chkOrd (opsG Tryz.f187) oF16 6 #[true,true,true,true,true,true,true,false,true,true,true,false,false,false,false,false]=true:=ck_fork (by kernel_rfl) c15
def oF17:OrdT:=.cons 10 true oF16
theorem w17:wellOrd oF17=true:=wl_cons w16 rfl
theorem c17:chkOrd (opsG Tryz.f187) oF17 7 #[true,true,true,true,true,true,true,false,true,true,false,false,false,false,false,false]=true:=ck_T (by kernel_rfl) c16
def oF18:OrdT:=.alt 9 oF17 oF9
theorem w18:wellOrd oF18=true:=wl_alt w17 rfl w9 rfl
theorem c18:chkOrd (opsG Tryz.f187) oF18 7 #[true,true,true,true,true,true,true,false,true,false,false,false,false,false,false,false]=true:=ck_alt c17 rfl
def oF19:OrdT:=.alt 7 oF7 oF18
theorem w19:wellOrd oF19=true:=wl_alt w7 rfl w18 rfl
theorem c19:chkOrd (opsG Tryz.f187) oF19 7 #[true,true,true,true,true,true,true,false,true,false,false,false,false,false,false,false]=true:=ck_alt c7 c18
def oF20:OrdT:=.fork oF19
theorem w20:wellOrd oF20=true:=wl_fork w19 rfl
theorem c20:chkOrd (opsG Tryz.f187) oF20 8 #[true,true,true,true,true,true,true,false,true,false,false,false,false,false,false,false]=true:=ck_fork (by kernel_rfl) c19
def oF21:OrdT:=.cons 6 true oF8
theorem w21:wellOrd oF21=true:=wl_cons w8 rfl
theorem c21:chkOrd (opsG Tryz.f187) oF21 4 #[true,true,true,true,true,true,false,false,true,true,true,true,true,true,false,false]=true:=ck_T (by kernel_rfl) c8
def oF22:OrdT:=.alt 13 oF21 oF9
theorem w22:wellOrd oF22=true:=wl_alt w21 rfl w9 rfl
theorem c22:chkOrd (opsG Tryz.f187) oF22 4 #[true,true,true,true,true,true,false,false,true,true,true,true,true,false,false,false]=true:=ck_alt c21 rfl
def oF23:OrdT:=.alt 6 oF12 oF22
theorem w23:wellOrd oF23=true:=wl_alt w12 rfl w22 rfl
theorem c23:chkOrd (opsG Tryz.f187) oF23 4 #[true,true,true,true,true,true,false,false,true,true,true,true,true,false,false,false]=true:=ck_alt c12 c22
def oF24:OrdT:=.fork oF23
theorem w24:wellOrd oF24=true:=wl_fork w23 rfl
theorem c24:chkOrd (opsG Tryz.f187) oF24 5 #[true,true,true,true,true,true,false,false,true,true,true,true,true,false,false,false]=true:=ck_fork (by kernel_rfl) c23
def oF25:OrdT:=.cons 12 true oF24
theorem w25:wellOrd oF25=true:=wl_cons w24 rfl
theorem c25:chkOrd (opsG Tryz.f187) oF25 6 #[true,true,true,true,true,true,false,false,true,true,true,true,false,false,false,false]=true:=ck_T (by kernel_rfl) c24
def oF26:OrdT:=.alt 11 oF25 oF9
theorem w26:wellOrd oF26=true:=wl_alt w25 rfl w9 rfl
theorem c26:chkOrd (opsG Tryz.f187) oF26 6 #[true,true,true,true,true,true,false,false,true,true,true,false,false,false,false,false]=true:=ck_alt c25 rfl
def oF27:OrdT:=.alt 6 oF16 oF26
theorem w27:wellOrd oF27=true:=wl_alt w16 rfl w26 rfl
theorem c27:chkOrd (opsG Tryz.f187) oF27 6 #[true,true,true,true,true,true,false,false,true,true,true,false,false,false,false,false]=true:=ck_alt c16 c26
def oF28:OrdT:=.fork oF27
theorem w28:wellOrd oF28=true:=wl_fork w27 rfl
theorem c28:chkOrd (opsG Tryz.f187) oF28 7 #[true,true,true,true,true,true,false,false,true,true,true,false,false,false,false,false]=true:=ck_fork (by kernel_rfl) c27
def oF29:OrdT:=.cons 10 true oF28
theorem w29:wellOrd oF29=true:=wl_cons w28 rfl
theorem c29:chkOrd (opsG Tryz.f187) oF29 8 #[true,true,true,true,true,true,false,false,true,true,false,false,false,false,false,false]=true:=ck_T (by kernel_rfl) c28
def oF30:OrdT:=.alt 9 oF29 oF9
theorem w30:wellOrd oF30=true:=wl_alt w29 rfl w9 rfl
theorem c30:chkOrd (opsG Tryz.f187) oF30 8 #[true,true,true,true,true,true,false,false,true,false,false,false,false,false,false,false]=true:=ck_alt c29 rfl
def oF31:OrdT:=.alt 6 oF20 oF30
theorem w31:wellOrd oF31=true:=wl_alt w20 rfl w30 rfl
theorem c31:chkOrd (opsG Tryz.f187) oF31 8 #[true,true,true,true,true,true,false,false,true,false,false,false,false,false,false,false]=true:=ck_alt c20 c30
def oF32:OrdT:=.fork oF31
theorem w32:wellOrd oF32=true:=wl_fork w31 rfl
theorem c32:chkOrd (opsG Tryz.f187) oF32 9 #[true,true,true,true,true,true,false,false,true,false,false,false,false,false,false,false]=true:=ck_fork (by kernel_rfl) c31
def oF33:OrdT:=.cons 5 true oF4
theorem w33:wellOrd oF33=true:=wl_cons w4 rfl
theorem c33:chkOrd (opsG Tryz.f187) oF33 5 #[true,true,true,true,true,false,true,true,true,true,true,true,false,false,false,false]=true:=ck_T (by kernel_rfl) c4
def oF34:OrdT:=.alt 11 oF33 oF9
theorem w34:wellOrd oF34=true:=wl_alt w33 rfl w9 rfl
theorem c34:chkOrd (opsG Tryz.f187) oF34 5 #[true,true,true,true,true,false,true,true,true,true,true,false,false,false,false,false]=true:=ck_alt c33 rfl
def oF35:OrdT:=.alt 5 oF5 oF34
theorem w35:wellOrd oF35=true:=wl_alt w5 rfl w34 rfl
theorem c35:chkOrd (opsG Tryz.f187) oF35 5 #[true,true,true,true,true,false,true,true,true,true,true,false,false,false,false,false]=true:=ck_alt c5 c34
def oF36:OrdT:=.fork oF35
theorem w36:wellOrd oF36=true:=wl_fork w35 rfl
theorem c36:chkOrd (opsG Tryz.f187) oF36 6 #[true,true,true,true,true,false,true,true,true,true,true,false,false,false,false,false]=true:=ck_fork (by kernel_rfl) c35
def oF37:OrdT:=.cons 10 true oF36
theorem w37:wellOrd oF37=true:=wl_cons w36 rfl
theorem c37:chkOrd (opsG Tryz.f187) oF37 7 #[true,true,true,true,true,false,true,true,true,true,false,false,false,false,false,false]=true:=ck_T (by kernel_rfl) c36
def oF38:OrdT:=.alt 9 oF37 oF9
theorem w38:wellOrd oF38=true:=wl_alt w37 rfl w9 rfl
theorem c38:chkOrd (opsG Tryz.f187) oF38 7 #[true,true,true,true,true,false,true,true,true,false,false,false,false,false,false,false]=true:=ck_alt c37 rfl
def oF39:OrdT:=.alt 5 oF7 oF38
theorem w39:wellOrd oF39=true:=wl_alt w7 rfl w38 rfl
theorem c39:chkOrd (opsG Tryz.f187) oF39 7 #[true,true,true,true,true,false,true,true,true,false,false,false,false,false,false,false]=true:=ck_alt c7 c38
def oF40:OrdT:=.fork oF39
theorem w40:wellOrd oF40=true:=wl_fork w39 rfl
theorem c40:chkOrd (opsG Tryz.f187) oF40 8 #[true,true,true,true,true,false,true,true,true,false,false,false,false,false,false,false]=true:=ck_fork (by kernel_rfl) c39
def oF41:OrdT:=.cons 5 true oF13
theorem w41:wellOrd oF41=true:=wl_cons w13 rfl
theorem c41:chkOrd (opsG Tryz.f187) oF41 6 #[true,true,true,true,true,false,true,false,true,true,true,true,false,false,false,false]=true:=ck_T (by kernel_rfl) c13
def oF42:OrdT:=.alt 11 oF41 oF9
theorem w42:wellOrd oF42=true:=wl_alt w41 rfl w9 rfl
theorem c42:chkOrd (opsG Tryz.f187) oF42 6 #[true,true,true,true,true,false,true,false,true,true,true,false,false,false,false,false]=true:=ck_alt c41 rfl
def oF43:OrdT:=.alt 7 oF36 oF42
theorem w43:wellOrd oF43=true:=wl_alt w36 rfl w42 rfl
theorem c43:chkOrd (opsG Tryz.f187) oF43 6 #[true,true,true,true,true,false,true,false,true,true,true,false,false,false,false,false]=true:=ck_alt c36 c42
def oF44:OrdT:=.alt 5 oF16 oF43
theorem w44:wellOrd oF44=true:=wl_alt w16 rfl w43 rfl
theorem c44:chkOrd (opsG Tryz.f187) oF44 6 #[true,true,true,true,true,false,true,false,true,true,true,false,false,false,false,false]=true:=ck_alt c16 c43
def oF45:OrdT:=.fork oF44
theorem w45:wellOrd oF45=true:=wl_fork w44 rfl
theorem c45:chkOrd (opsG Tryz.f187) oF45 7 #[true,true,true,true,true,false,true,false,true,true,true,false,false,false,false,false]=true:=ck_fork (by kernel_rfl) c44
def oF46:OrdT:=.cons 10 true oF45
theorem w46:wellOrd oF46=true:=wl_cons w45 rfl
theorem c46:chkOrd (opsG Tryz.f187) oF46 8 #[true,true,true,true,true,false,true,false,true,true,false,false,false,false,false,false]=true:=ck_T (by kernel_rfl) c45
def oF47:OrdT:=.alt 9 oF46 oF9
theorem w47:wellOrd oF47=true:=wl_alt w46 rfl w9 rfl
theorem c47:chkOrd (opsG Tryz.f187) oF47 8 #[true,true,true,true,true,false,true,false,true,false,false,false,false,false,false,false]=true:=ck_alt c46 rfl
def oF48:OrdT:=.alt 7 oF40 oF47
theorem w48:wellOrd oF48=true:=wl_alt w40 rfl w47 rfl
theorem c48:chkOrd (opsG Tryz.f187) oF48 8 #[true,true,true,true,true,false,true,false,true,false,false,false,false,false,false,false]=true:=ck_alt c40 c47
def oF49:OrdT:=.alt 5 oF20 oF48
theorem w49:wellOrd oF49=true:=wl_alt w20 rfl w48 rfl
theorem c49:chkOrd (opsG Tryz.f187) oF49 8 #[true,true,true,true,true,false,true,false,true,false,false,false,false,false,false,false]=true:=ck_alt c20 c48
def oF50:OrdT:=.fork oF49
theorem w50:wellOrd oF50=true:=wl_fork w49 rfl
theorem c50:chkOrd (opsG Tryz.f187) oF50 9 #[true,true,true,true,true,false,true,false,true,false,false,false,false,false,false,false]=true:=ck_fork (by kernel_rfl) c49
def oF51:OrdT:=.cons 5 true oF25
theorem w51:wellOrd oF51=true:=wl_cons w25 rfl
theorem c51:chkOrd (opsG Tryz.f187) oF51 7 #[true,true,true,true,true,false,false,false,true,true,true,true,false,false,false,false]=true:=ck_T (by kernel_rfl) c25
def oF52:OrdT:=.alt 11 oF51 oF9
theorem w52:wellOrd oF52=true:=wl_alt w51 rfl w9 rfl
theorem c52:chkOrd (opsG Tryz.f187) oF52 7 #[true,true,true,true,true,false,false,false,true,true,true,false,false,false,false,false]=true:=ck_alt c51 rfl
def oF53:OrdT:=.alt 6 oF45 oF52
theorem w53:wellOrd oF53=true:=wl_alt w45 rfl w52 rfl
theorem c53:chkOrd (opsG Tryz.f187) oF53 7 #[true,true,true,true,true,false,false,false,true,true,true,false,false,false,false,false]=true:=ck_alt c45 c52
def oF54:OrdT:=.alt 5 oF28 oF53
theorem w54:wellOrd oF54=true:=wl_alt w28 rfl w53 rfl
theorem c54:chkOrd (opsG Tryz.f187) oF54 7 #[true,true,true,true,true,false,false,false,true,true,true,false,false,false,false,false]=true:=ck_alt c28 c53
def oF55:OrdT:=.fork oF54
theorem w55:wellOrd oF55=true:=wl_fork w54 rfl
theorem c55:chkOrd (opsG Tryz.f187) oF55 8 #[true,true,true,true,true,false,false,false,true,true,true,false,false,false,false,false]=true:=ck_fork (by kernel_rfl) c54
def oF56:OrdT:=.cons 10 true oF55
theorem w56:wellOrd oF56=true:=wl_cons w55 rfl
theorem c56:chkOrd (opsG Tryz.f187) oF56 9 #[true,true,true,true,true,false,false,false,true,true,false,false,false,false,false,false]=true:=ck_T (by kernel_rfl) c55
def oF57:OrdT:=.alt 9 oF56 oF9
theorem w57:wellOrd oF57=true:=wl_alt w56 rfl w9 rfl
theorem c57:chkOrd (opsG Tryz.f187) oF57 9 #[true,true,true,true,true,false,false,false,true,false,false,false,false,false,false,false]=true:=ck_alt c56 rfl
def oF58:OrdT:=.alt 6 oF50 oF57
theorem w58:wellOrd oF58=true:=wl_alt w50 rfl w57 rfl
theorem c58:chkOrd (opsG Tryz.f187) oF58 9 #[true,true,true,true,true,false,false,false,true,false,false,false,false,false,false,false]=true:=ck_alt c50 c57
def oF59:OrdT:=.alt 5 oF32 oF58
theorem w59:wellOrd oF59=true:=wl_alt w32 rfl w58 rfl
theorem c59:chkOrd (opsG Tryz.f187) oF59 9 #[true,true,true,true,true,false,false,false,true,false,false,false,false,false,false,false]=true:=ck_alt c32 c58
def oF60:OrdT:=.fork oF59
theorem w60:wellOrd oF60=true:=wl_fork w59 rfl
theorem c60:chkOrd (opsG Tryz.f187) oF60 10 #[true,true,true,true,true,false,false,false,true,false,false,false,false,false,false,false]=true:=ck_fork (by kernel_rfl) c59
def oF61:OrdT:=.cons 4 true oF33
theorem w61:wellOrd oF61=true:=wl_cons w33 rfl
theorem c61:chkOrd (opsG Tryz.f187) oF61 6 #[true,true,true,true,false,false,true,true,true,true,true,true,false,false,false,false]=true:=ck_T (by kernel_rfl) c33
def oF62:OrdT:=.alt 11 oF61 oF9
theorem w62:wellOrd oF62=true:=wl_alt w61 rfl w9 rfl
theorem c62:chkOrd (opsG Tryz.f187) oF62 6 #[true,true,true,true,false,false,true,true,true,true,true,false,false,false,false,false]=true:=ck_alt c61 rfl
def oF63:OrdT:=.alt 4 oF36 oF62
theorem w63:wellOrd oF63=true:=wl_alt w36 rfl w62 rfl
theorem c63:chkOrd (opsG Tryz.f187) oF63 6 #[true,true,true,true,false,false,true,true,true,true,true,false,false,false,false,false]=true:=ck_alt c36 c62
def oF64:OrdT:=.fork oF63
theorem w64:wellOrd oF64=true:=wl_fork w63 rfl
theorem c64:chkOrd (opsG Tryz.f187) oF64 7 #[true,true,true,true,false,false,true,true,true,true,true,false,false,false,false,false]=true:=ck_fork (by kernel_rfl) c63
def oF65:OrdT:=.cons 10 true oF64
theorem w65:wellOrd oF65=true:=wl_cons w64 rfl
theorem c65:chkOrd (opsG Tryz.f187) oF65 8 #[true,true,true,true,false,false,true,true,true,true,false,false,false,false,false,false]=true:=ck_T (by kernel_rfl) c64
def oF66:OrdT:=.alt 9 oF65 oF9
theorem w66:wellOrd oF66=true:=wl_alt w65 rfl w9 rfl
theorem c66:chkOrd (opsG Tryz.f187) oF66 8 #[true,true,true,true,false,false,true,true,true,false,false,false,false,false,false,false]=true:=ck_alt c65 rfl
def oF67:OrdT:=.alt 4 oF40 oF66
theorem w67:wellOrd oF67=true:=wl_alt w40 rfl w66 rfl
theorem c67:chkOrd (opsG Tryz.f187) oF67 8 #[true,true,true,true,false,false,true,true,true,false,false,false,false,false,false,false]=true:=ck_alt c40 c66
def oF68:OrdT:=.fork oF67
theorem w68:wellOrd oF68=true:=wl_fork w67 rfl
theorem c68:chkOrd (opsG Tryz.f187) oF68 9 #[true,true,true,true,false,false,true,true,true,false,false,false,false,false,false,false]=true:=ck_fork (by kernel_rfl) c67
def oF69:OrdT:=.cons 4 true oF41
theorem w69:wellOrd oF69=true:=wl_cons w41 rfl
theorem c69:chkOrd (opsG Tryz.f187) oF69 7 #[true,true,true,true,false,false,true,false,true,true,true,true,false,false,false,false]=true:=ck_T (by kernel_rfl) c41
def oF70:OrdT:=.alt 11 oF69 oF9
theorem w70:wellOrd oF70=true:=wl_alt w69 rfl w9 rfl
theorem c70:chkOrd (opsG Tryz.f187) oF70 7 #[true,true,true,true,false,false,true,false,true,true,true,false,false,false,false,false]=true:=ck_alt c69 rfl
def oF71:OrdT:=.alt 7 oF64 oF70
theorem w71:wellOrd oF71=true:=wl_alt w64 rfl w70 rfl
theorem c71:chkOrd (opsG Tryz.f187) oF71 7 #[true,true,true,true,false,false,true,false,true,true,true,false,false,false,false,false]=true:=ck_alt c64 c70
def oF72:OrdT:=.alt 4 oF45 oF71
theorem w72:wellOrd oF72=true:=wl_alt w45 rfl w71 rfl
theorem c72:chkOrd (opsG Tryz.f187) oF72 7 #[true,true,true,true,false,false,true,false,true,true,true,false,false,false,false,false]=true:=ck_alt c45 c71
def oF73:OrdT:=.fork oF72
theorem w73:wellOrd oF73=true:=wl_fork w72 rfl
theorem c73:chkOrd (opsG Tryz.f187) oF73 8 #[true,true,true,true,false,false,true,false,true,true,true,false,false,false,false,false]=true:=ck_fork (by kernel_rfl) c72
def oF74:OrdT:=.cons 10 true oF73
theorem w74:wellOrd oF74=true:=wl_cons w73 rfl
theorem c74:chkOrd (opsG Tryz.f187) oF74 9 #[true,true,true,true,false,false,true,false,true,true,false,false,false,false,false,false]=true:=ck_T (by kernel_rfl) c73
def oF75:OrdT:=.alt 9 oF74 oF9
theorem w75:wellOrd oF75=true:=wl_alt w74 rfl w9 rfl
theorem c75:chkOrd (opsG Tryz.f187) oF75 9 #[true,true,true,true,false,false,true,false,true,false,false,false,false,false,false,false]=true:=ck_alt c74 rfl
def oF76:OrdT:=.alt 7 oF68 oF75
theorem w76:wellOrd oF76=true:=wl_alt w68 rfl w75 rfl
theorem c76:chkOrd (opsG Tryz.f187) oF76 9 #[true,true,true,true,false,false,true,false,true,false,false,false,false,false,false,false]=true:=ck_alt c68 c75
def oF77:OrdT:=.alt 4 oF50 oF76
theorem w77:wellOrd oF77=true:=wl_alt w50 rfl w76 rfl
theorem c77:chkOrd (opsG Tryz.f187) oF77 9 #[true,true,true,true,false,false,true,false,true,false,false,false,false,false,false,false]=true:=ck_alt c50 c76
def oF78:OrdT:=.fork oF77
theorem w78:wellOrd oF78=true:=wl_fork w77 rfl
theorem c78:chkOrd (opsG Tryz.f187) oF78 10 #[true,true,true,true,false,false,true,false,true,false,false,false,false,false,false,false]=true:=ck_fork (by kernel_rfl) c77
def oF79:OrdT:=.cons 4 true oF51
theorem w79:wellOrd oF79=true:=wl_cons w51 rfl
theorem c79:chkOrd (opsG Tryz.f187) oF79 8 #[true,true,true,true,false,false,false,false,true,true,true,true,false,false,false,false]=true:=ck_T (by kernel_rfl) c51
def oF80:OrdT:=.alt 11 oF79 oF9
theorem w80:wellOrd oF80=true:=wl_alt w79 rfl w9 rfl
theorem c80:chkOrd (opsG Tryz.f187) oF80 8 #[true,true,true,true,false,false,false,false,true,true,true,false,false,false,false,false]=true:=ck_alt c79 rfl
def oF81:OrdT:=.alt 6 oF73 oF80
theorem w81:wellOrd oF81=true:=wl_alt w73 rfl w80 rfl
theorem c81:chkOrd (opsG Tryz.f187) oF81 8 #[true,true,true,true,false,false,false,false,true,true,true,false,false,false,false,false]=true:=ck_alt c73 c80
def oF82:OrdT:=.alt 4 oF55 oF81
theorem w82:wellOrd oF82=true:=wl_alt w55 rfl w81 rfl
theorem c82:chkOrd (opsG Tryz.f187) oF82 8 #[true,true,true,true,false,false,false,false,true,true,true,false,false,false,false,false]=true:=ck_alt c55 c81
def oF83:OrdT:=.fork oF82
theorem w83:wellOrd oF83=true:=wl_fork w82 rfl
theorem c83:chkOrd (opsG Tryz.f187) oF83 9 #[true,true,true,true,false,false,false,false,true,true,true,false,false,false,false,false]=true:=ck_fork (by kernel_rfl) c82
def oF84:OrdT:=.cons 10 true oF83
theorem w84:wellOrd oF84=true:=wl_cons w83 rfl
theorem c84:chkOrd (opsG Tryz.f187) oF84 10 #[true,true,true,true,false,false,false,false,true,true,false,false,false,false,false,false]=true:=ck_T (by kernel_rfl) c83
def oF85:OrdT:=.alt 9 oF84 oF9
theorem w85:wellOrd oF85=true:=wl_alt w84 rfl w9 rfl
theorem c85:chkOrd (opsG Tryz.f187) oF85 10 #[true,true,true,true,false,false,false,false,true,false,false,false,false,false,false,false]=true:=ck_alt c84 rfl
def oF86:OrdT:=.alt 6 oF78 oF85
theorem w86:wellOrd oF86=true:=wl_alt w78 rfl w85 rfl
theorem c86:chkOrd (opsG Tryz.f187) oF86 10 #[true,true,true,true,false,false,false,false,true,false,false,false,false,false,false,false]=true:=ck_alt c78 c85
def oF87:OrdT:=.alt 4 oF60 oF86
theorem w87:wellOrd oF87=true:=wl_alt w60 rfl w86 rfl
theorem c87:chkOrd (opsG Tryz.f187) oF87 10 #[true,true,true,true,false,false,false,false,true,false,false,false,false,false,false,false]=true:=ck_alt c60 c86
def oF88:OrdT:=.fork oF87
theorem w88:wellOrd oF88=true:=wl_fork w87 rfl
theorem c88:chkOrd (opsG Tryz.f187) oF88 11 #[true,true,true,true,false,false,false,false,true,false,false,false,false,false,false,false]=true:=ck_fork (by kernel_rfl) c87
def oF89:OrdT:=.cons 3 true oF6
theorem w89:wellOrd oF89=true:=wl_cons w6 rfl
theorem c89:chkOrd (opsG Tryz.f187) oF89 7 #[true,true,true,false,true,true,true,true,true,true,false,false,false,false,false,false]=true:=ck_T (by kernel_rfl) c6
def oF90:OrdT:=.alt 9 oF89 oF9
theorem w90:wellOrd oF90=true:=wl_alt w89 rfl w9 rfl
theorem c90:chkOrd (opsG Tryz.f187) oF90 7 #[true,true,true,false,true,true,true,true,true,false,false,false,false,false,false,false]=true:=ck_alt c89 rfl
def oF91:OrdT:=.alt 3 oF7 oF90
theorem w91:wellOrd oF91=true:=wl_alt w7 rfl w90 rfl
theorem c91:chkOrd (opsG Tryz.f187) oF91 7 #[true,true,true,false,true,true,true,true,true,false,false,false,false,false,false,false]=true:=ck_alt c7 c90
def oF92:OrdT:=.fork oF91
theorem w92:wellOrd oF92=true:=wl_fork w91 rfl
theorem c92:chkOrd (opsG Tryz.f187) oF92 8 #[true,true,true,false,true,true,true,true,true,false,false,false,false,false,false,false]=true:=ck_fork (by kernel_rfl) c91
def oF93:OrdT:=.cons 3 true oF17
theorem w93:wellOrd oF93=true:=wl_cons w17 rfl
theorem c93:chkOrd (opsG Tryz.f187) oF93 8 #[true,true,true,false,true,true,true,false,true,true,false,false,false,false,false,false]=true:=ck_T (by kernel_rfl) c17
def oF94:OrdT:=.alt 9 oF93 oF9
theorem w94:wellOrd oF94=true:=wl_alt w93 rfl w9 rfl
theorem c94:chkOrd (opsG Tryz.f187) oF94 8 #[true,true,true,false,true,true,true,false,true,false,false,false,false,false,false,false]=true:=ck_alt c93 rfl
def oF95:OrdT:=.alt 7 oF92 oF94
theorem w95:wellOrd oF95=true:=wl_alt w92 rfl w94 rfl
theorem c95:chkOrd (opsG Tryz.f187) oF95 8 #[true,true,true,false,true,true,true,false,true,false,false,false,false,false,false,false]=true:=ck_alt c92 c94
def oF96:OrdT:=.alt 3 oF20 oF95
theorem w96:wellOrd oF96=true:=wl_alt w20 rfl w95 rfl
theorem c96:chkOrd (opsG Tryz.f187) oF96 8 #[true,true,true,false,true,true,true,false,true,false,false,false,false,false,false,false]=true:=ck_alt c20 c95
def oF97:OrdT:=.fork oF96
theorem w97:wellOrd oF97=true:=wl_fork w96 rfl
theorem c97:chkOrd (opsG Tryz.f187) oF97 9 #[true,true,true,false,true,true,true,false,true,false,false,false,false,false,false,false]=true:=ck_fork (by kernel_rfl) c96
def oF98:OrdT:=.cons 3 true oF29
theorem w98:wellOrd oF98=true:=wl_cons w29 rfl
theorem c98:chkOrd (opsG Tryz.f187) oF98 9 #[true,true,true,false,true,true,false,false,true,true,false,false,false,false,false,false]=true:=ck_T (by kernel_rfl) c29
def oF99:OrdT:=.alt 9 oF98 oF9
theorem w99:wellOrd oF99=true:=wl_alt w98 rfl w9 rfl
theorem c99:chkOrd (opsG Tryz.f187) oF99 9 #[true,true,true,false,true,true,false,false,true,false,false,false,false,false,false,false]=true:=ck_alt c98 rfl
def oF100:OrdT:=.alt 6 oF97 oF99
theorem w100:wellOrd oF100=true:=wl_alt w97 rfl w99 rfl
theorem c100:chkOrd (opsG Tryz.f187) oF100 9 #[true,true,true,false,true,true,false,false,true,false,false,false,false,false,false,false]=true:=ck_alt c97 c99
def oF101:OrdT:=.alt 3 oF32 oF100
theorem w101:wellOrd oF101=true:=wl_alt w32 rfl w100 rfl
theorem c101:chkOrd (opsG Tryz.f187) oF101 9 #[true,true,true,false,true,true,false,false,true,false,false,false,false,false,false,false]=true:=ck_alt c32 c100
def oF102:OrdT:=.fork oF101
theorem w102:wellOrd oF102=true:=wl_fork w101 rfl
theorem c102:chkOrd (opsG Tryz.f187) oF102 10 #[true,true,true,false,true,true,false,false,true,false,false,false,false,false,false,false]=true:=ck_fork (by kernel_rfl) c101
def oF103:OrdT:=.cons 3 true oF37
theorem w103:wellOrd oF103=true:=wl_cons w37 rfl
theorem c103:chkOrd (opsG Tryz.f187) oF103 8 #[true,true,true,false,true,false,true,true,true,true,false,false,false,false,false,false]=true:=ck_T (by kernel_rfl) c37
def oF104:OrdT:=.alt 9 oF103 oF9
theorem w104:wellOrd oF104=true:=wl_alt w103 rfl w9 rfl
theorem c104:chkOrd (opsG Tryz.f187) oF104 8 #[true,true,true,false,true,false,true,true,true,false,false,false,false,false,false,false]=true:=ck_alt c103 rfl
def oF105:OrdT:=.alt 5 oF92 oF104
theorem w105:wellOrd oF105=true:=wl_alt w92 rfl w104 rfl
theorem c105:chkOrd (opsG Tryz.f187) oF105 8 #[true,true,true,false,true,false,true,true,true,false,false,false,false,false,false,false]=true:=ck_alt c92 c104
def oF106:OrdT:=.alt 3 oF40 oF105
theorem w106:wellOrd oF106=true:=wl_alt w40 rfl w105 rfl
theorem c106:chkOrd (opsG Tryz.f187) oF106 8 #[true,true,true,false,true,false,true,true,true,false,false,false,false,false,false,false]=true:=ck_alt c40 c105
def oF107:OrdT:=.fork oF106
theorem w107:wellOrd oF107=true:=wl_fork w106 rfl
theorem c107:chkOrd (opsG Tryz.f187) oF107 9 #[true,true,true,false,true,false,true,true,true,false,false,false,false,false,false,false]=true:=ck_fork (by kernel_rfl) c106
def oF108:OrdT:=.cons 3 true oF46
theorem w108:wellOrd oF108=true:=wl_cons w46 rfl
theorem c108:chkOrd (opsG Tryz.f187) oF108 9 #[true,true,true,false,true,false,true,false,true,true,false,false,false,false,false,false]=true:=ck_T (by kernel_rfl) c46
def oF109:OrdT:=.alt 9 oF108 oF9
theorem w109:wellOrd oF109=true:=wl_alt w108 rfl w9 rfl
theorem c109:chkOrd (opsG Tryz.f187) oF109 9 #[true,true,true,false,true,false,true,false,true,false,false,false,false,false,false,false]=true:=ck_alt c108 rfl
def oF110:OrdT:=.alt 7 oF107 oF109
theorem w110:wellOrd oF110=true:=wl_alt w107 rfl w109 rfl
theorem c110:chkOrd (opsG Tryz.f187) oF110 9 #[true,true,true,false,true,false,true,false,true,false,false,false,false,false,false,false]=true:=ck_alt c107 c109
def oF111:OrdT:=.alt 5 oF97 oF110
theorem w111:wellOrd oF111=true:=wl_alt w97 rfl w110 rfl
theorem c111:chkOrd (opsG Tryz.f187) oF111 9 #[true,true,true,false,true,false,true,false,true,false,false,false,false,false,false,false]=true:=ck_alt c97 c110
def oF112:OrdT:=.alt 3 oF50 oF111
theorem w112:wellOrd oF112=true:=wl_alt w50 rfl w111 rfl
theorem c112:chkOrd (opsG Tryz.f187) oF112 9 #[true,true,true,false,true,false,true,false,true,false,false,false,false,false,false,false]=true:=ck_alt c50 c111
def oF113:OrdT:=.fork oF112
theorem w113:wellOrd oF113=true:=wl_fork w112 rfl
theorem c113:chkOrd (opsG Tryz.f187) oF113 10 #[true,true,true,false,true,false,true,false,true,false,false,false,false,false,false,false]=true:=ck_fork (by kernel_rfl) c112
def oF114:OrdT:=.cons 3 true oF56
theorem w114:wellOrd oF114=true:=wl_cons w56 rfl
theorem c114:chkOrd (opsG Tryz.f187) oF114 10 #[true,true,true,false,true,false,false,false,true,true,false,false,false,false,false,false]=true:=ck_T (by kernel_rfl) c56
def oF115:OrdT:=.alt 9 oF114 oF9
theorem w115:wellOrd oF115=true:=wl_alt w114 rfl w9 rfl
theorem c115:chkOrd (opsG Tryz.f187) oF115 10 #[true,true,true,false,true,false,false,false,true,false,false,false,false,false,false,false]=true:=ck_alt c114 rfl
def oF116:OrdT:=.alt 6 oF113 oF115
theorem w116:wellOrd oF116=true:=wl_alt w113 rfl w115 rfl
theorem c116:chkOrd (opsG Tryz.f187) oF116 10 #[true,true,true,false,true,false,false,false,true,false,false,false,false,false,false,false]=true:=ck_alt c113 c115
def oF117:OrdT:=.alt 5 oF102 oF116
theorem w117:wellOrd oF117=true:=wl_alt w102 rfl w116 rfl
theorem c117:chkOrd (opsG Tryz.f187) oF117 10 #[true,true,true,false,true,false,false,false,true,false,false,false,false,false,false,false]=true:=ck_alt c102 c116
def oF118:OrdT:=.alt 3 oF60 oF117
theorem w118:wellOrd oF118=true:=wl_alt w60 rfl w117 rfl
theorem c118:chkOrd (opsG Tryz.f187) oF118 10 #[true,true,true,false,true,false,false,false,true,false,false,false,false,false,false,false]=true:=ck_alt c60 c117
def oF119:OrdT:=.fork oF118
theorem w119:wellOrd oF119=true:=wl_fork w118 rfl
theorem c119:chkOrd (opsG Tryz.f187) oF119 11 #[true,true,true,false,true,false,false,false,true,false,false,false,false,false,false,false]=true:=ck_fork (by kernel_rfl) c118
def oF120:OrdT:=.cons 3 true oF65
theorem w120:wellOrd oF120=true:=wl_cons w65 rfl
theorem c120:chkOrd (opsG Tryz.f187) oF120 9 #[true,true,true,false,false,false,true,true,true,true,false,false,false,false,false,false]=true:=ck_T (by kernel_rfl) c65
def oF121:OrdT:=.alt 9 oF120 oF9
theorem w121:wellOrd oF121=true:=wl_alt w120 rfl w9 rfl
theorem c121:chkOrd (opsG Tryz.f187) oF121 9 #[true,true,true,false,false,false,true,true,true,false,false,false,false,false,false,false]=true:=ck_alt c120 rfl
def oF122:OrdT:=.alt 4 oF107 oF121
theorem w122:wellOrd oF122=true:=wl_alt w107 rfl w121 rfl
theorem c122:chkOrd (opsG Tryz.f187) oF122 9 #[true,true,true,false,false,false,true,true,true,false,false,false,false,false,false,false]=true:=ck_alt c107 c121
def oF123:OrdT:=.alt 3 oF68 oF122
theorem w123:wellOrd oF123=true:=wl_alt w68 rfl w122 rfl
theorem c123:chkOrd (opsG Tryz.f187) oF123 9 #[true,true,true,false,false,false,true,true,true,false,false,false,false,false,false,false]=true:=ck_alt c68 c122
def oF124:OrdT:=.fork oF123
theorem w124:wellOrd oF124=true:=wl_fork w123 rfl
theorem c124:chkOrd (opsG Tryz.f187) oF124 10 #[true,true,true,false,false,false,true,true,true,false,false,false,false,false,false,false]=true:=ck_fork (by kernel_rfl) c123
def oF125:OrdT:=.cons 3 true oF74
theorem w125:wellOrd oF125=true:=wl_cons w74 rfl
theorem c125:chkOrd (opsG Tryz.f187) oF125 10 #[true,true,true,false,false,false,true,false,true,true,false,false,false,false,false,false]=true:=ck_T (by kernel_rfl) c74
def oF126:OrdT:=.alt 9 oF125 oF9
theorem w126:wellOrd oF126=true:=wl_alt w125 rfl w9 rfl
theorem c126:chkOrd (opsG Tryz.f187) oF126 10 #[true,true,true,false,false,false,true,false,true,false,false,false,false,false,false,false]=true:=ck_alt c125 rfl
def oF127:OrdT:=.alt 7 oF124 oF126
theorem w127:wellOrd oF127=true:=wl_alt w124 rfl w126 rfl
theorem c127:chkOrd (opsG Tryz.f187) oF127 10 #[true,true,true,false,false,false,true,false,true,false,false,false,false,false,false,false]=true:=ck_alt c124 c126
def oF128:OrdT:=.alt 4 oF113 oF127
theorem w128:wellOrd oF128=true:=wl_alt w113 rfl w127 rfl
theorem c128:chkOrd (opsG Tryz.f187) oF128 10 #[true,true,true,false,false,false,true,false,true,false,false,false,false,false,false,false]=true:=ck_alt c113 c127
def oF129:OrdT:=.alt 3 oF78 oF128
theorem w129:wellOrd oF129=true:=wl_alt w78 rfl w128 rfl
theorem c129:chkOrd (opsG Tryz.f187) oF129 10 #[true,true,true,false,false,false,true,false,true,false,false,false,false,false,false,false]=true:=ck_alt c78 c128
def oF130:OrdT:=.fork oF129
theorem w130:wellOrd oF130=true:=wl_fork w129 rfl
theorem c130:chkOrd (opsG Tryz.f187) oF130 11 #[true,true,true,false,false,false,true,false,true,false,false,false,false,false,false,false]=true:=ck_fork (by kernel_rfl) c129
def oF131:OrdT:=.cons 3 true oF84
theorem w131:wellOrd oF131=true:=wl_cons w84 rfl
theorem c131:chkOrd (opsG Tryz.f187) oF131 11 #[true,true,true,false,false,false,false,false,true,true,false,false,false,false,false,false]=true:=ck_T (by kernel_rfl) c84
def oF132:OrdT:=.alt 9 oF131 oF9
theorem w132:wellOrd oF132=true:=wl_alt w131 rfl w9 rfl
theorem c132:chkOrd (opsG Tryz.f187) oF132 11 #[true,true,true,false,false,false,false,false,true,false,false,false,false,false,false,false]=true:=ck_alt c131 rfl
def oF133:OrdT:=.alt 6 oF130 oF132
theorem w133:wellOrd oF133=true:=wl_alt w130 rfl w132 rfl
theorem c133:chkOrd (opsG Tryz.f187) oF133 11 #[true,true,true,false,false,false,false,false,true,false,false,false,false,false,false,false]=true:=ck_alt c130 c132
def oF134:OrdT:=.alt 4 oF119 oF133
theorem w134:wellOrd oF134=true:=wl_alt w119 rfl w133 rfl
theorem c134:chkOrd (opsG Tryz.f187) oF134 11 #[true,true,true,false,false,false,false,false,true,false,false,false,false,false,false,false]=true:=ck_alt c119 c133
def oF135:OrdT:=.alt 3 oF88 oF134
theorem w135:wellOrd oF135=true:=wl_alt w88 rfl w134 rfl
theorem c135:chkOrd (opsG Tryz.f187) oF135 11 #[true,true,true,false,false,false,false,false,true,false,false,false,false,false,false,false]=true:=ck_alt c88 c134
def oF136:OrdT:=.fork oF135
theorem w136:wellOrd oF136=true:=wl_fork w135 rfl
theorem c136:chkOrd (opsG Tryz.f187) oF136 12 #[true,true,true,false,false,false,false,false,true,false,false,false,false,false,false,false]=true:=ck_fork (by kernel_rfl) c135
def oF137:OrdT:=.cons 2 true oF89
theorem w137:wellOrd oF137=true:=wl_cons w89 rfl
theorem c137:chkOrd (opsG Tryz.f187) oF137 8 #[true,true,false,false,true,true,true,true,true,true,false,false,false,false,false,false]=true:=ck_T (by kernel_rfl) c89
def oF138:OrdT:=.alt 9 oF137 oF9
theorem w138:wellOrd oF138=true:=wl_alt w137 rfl w9 rfl
theorem c138:chkOrd (opsG Tryz.f187) oF138 8 #[true,true,false,false,true,true,true,true,true,false,false,false,false,false,false,false]=true:=ck_alt c137 rfl
def oF139:OrdT:=.alt 2 oF92 oF138
theorem w139:wellOrd oF139=true:=wl_alt w92 rfl w138 rfl
theorem c139:chkOrd (opsG Tryz.f187) oF139 8 #[true,true,false,false,true,true,true,true,true,false,false,false,false,false,false,false]=true:=ck_alt c92 c138
def oF140:OrdT:=.fork oF139
theorem w140:wellOrd oF140=true:=wl_fork w139 rfl
theorem c140:chkOrd (opsG Tryz.f187) oF140 9 #[true,true,false,false,true,true,true,true,true,false,false,false,false,false,false,false]=true:=ck_fork (by kernel_rfl) c139
def oF141:OrdT:=.cons 2 true oF93
theorem w141:wellOrd oF141=true:=wl_cons w93 rfl
theorem c141:chkOrd (opsG Tryz.f187) oF141 9 #[true,true,false,false,true,true,true,false,true,true,false,false,false,false,false,false]=true:=ck_T (by kernel_rfl) c93
def oF142:OrdT:=.alt 9 oF141 oF9
theorem w142:wellOrd oF142=true:=wl_alt w141 rfl w9 rfl
theorem c142:chkOrd (opsG Tryz.f187) oF142 9 #[true,true,false,false,true,true,true,false,true,false,false,false,false,false,false,false]=true:=ck_alt c141 rfl
def oF143:OrdT:=.alt 7 oF140 oF142
theorem w143:wellOrd oF143=true:=wl_alt w140 rfl w142 rfl
theorem c143:chkOrd (opsG Tryz.f187) oF143 9 #[true,true,false,false,true,true,true,false,true,false,false,false,false,false,false,false]=true:=ck_alt c140 c142
def oF144:OrdT:=.alt 2 oF97 oF143
theorem w144:wellOrd oF144=true:=wl_alt w97 rfl w143 rfl
theorem c144:chkOrd (opsG Tryz.f187) oF144 9 #[true,true,false,false,true,true,true,false,true,false,false,false,false,false,false,false]=true:=ck_alt c97 c143
def oF145:OrdT:=.fork oF144
theorem w145:wellOrd oF145=true:=wl_fork w144 rfl
theorem c145:chkOrd (opsG Tryz.f187) oF145 10 #[true,true,false,false,true,true,true,false,true,false,false,false,false,false,false,false]=true:=ck_fork (by kernel_rfl) c144
def oF146:OrdT:=.cons 2 true oF98
theorem w146:wellOrd oF146=true:=wl_cons w98 rfl
theorem c146:chkOrd (opsG Tryz.f187) oF146 10 #[true,true,false,false,true,true,false,false,true,true,false,false,false,false,false,false]=true:=ck_T (by kernel_rfl) c98
def oF147:OrdT:=.alt 9 oF146 oF9
theorem w147:wellOrd oF147=true:=wl_alt w146 rfl w9 rfl
theorem c147:chkOrd (opsG Tryz.f187) oF147 10 #[true,true,false,false,true,true,false,false,true,false,false,false,false,false,false,false]=true:=ck_alt c146 rfl
def oF148:OrdT:=.alt 6 oF145 oF147
theorem w148:wellOrd oF148=true:=wl_alt w145 rfl w147 rfl
theorem c148:chkOrd (opsG Tryz.f187) oF148 10 #[true,true,false,false,true,true,false,false,true,false,false,false,false,false,false,false]=true:=ck_alt c145 c147
def oF149:OrdT:=.alt 2 oF102 oF148
theorem w149:wellOrd oF149=true:=wl_alt w102 rfl w148 rfl
theorem c149:chkOrd (opsG Tryz.f187) oF149 10 #[true,true,false,false,true,true,false,false,true,false,false,false,false,false,false,false]=true:=ck_alt c102 c148
def oF150:OrdT:=.fork oF149
theorem w150:wellOrd oF150=true:=wl_fork w149 rfl
theorem c150:chkOrd (opsG Tryz.f187) oF150 11 #[true,true,false,false,true,true,false,false,true,false,false,false,false,false,false,false]=true:=ck_fork (by kernel_rfl) c149
def oF151:OrdT:=.cons 2 true oF103
theorem w151:wellOrd oF151=true:=wl_cons w103 rfl
theorem c151:chkOrd (opsG Tryz.f187) oF151 9 #[true,true,false,false,true,false,true,true,true,true,false,false,false,false,false,false]=true:=ck_T (by kernel_rfl) c103
def oF152:OrdT:=.alt 9 oF151 oF9
theorem w152:wellOrd oF152=true:=wl_alt w151 rfl w9 rfl
theorem c152:chkOrd (opsG Tryz.f187) oF152 9 #[true,true,false,false,true,false,true,true,true,false,false,false,false,false,false,false]=true:=ck_alt c151 rfl
def oF153:OrdT:=.alt 5 oF140 oF152
theorem w153:wellOrd oF153=true:=wl_alt w140 rfl w152 rfl
theorem c153:chkOrd (opsG Tryz.f187) oF153 9 #[true,true,false,false,true,false,true,true,true,false,false,false,false,false,false,false]=true:=ck_alt c140 c152
def oF154:OrdT:=.alt 2 oF107 oF153
theorem w154:wellOrd oF154=true:=wl_alt w107 rfl w153 rfl
theorem c154:chkOrd (opsG Tryz.f187) oF154 9 #[true,true,false,false,true,false,true,true,true,false,false,false,false,false,false,false]=true:=ck_alt c107 c153
def oF155:OrdT:=.fork oF154
theorem w155:wellOrd oF155=true:=wl_fork w154 rfl
theorem c155:chkOrd (opsG Tryz.f187) oF155 10 #[true,true,false,false,true,false,true,true,true,false,false,false,false,false,false,false]=true:=ck_fork (by kernel_rfl) c154
def oF156:OrdT:=.cons 2 true oF108
theorem w156:wellOrd oF156=true:=wl_cons w108 rfl
theorem c156:chkOrd (opsG Tryz.f187) oF156 10 #[true,true,false,false,true,false,true,false,true,true,false,false,false,false,false,false]=true:=ck_T (by kernel_rfl) c108
def oF157:OrdT:=.alt 9 oF156 oF9
theorem w157:wellOrd oF157=true:=wl_alt w156 rfl w9 rfl
theorem c157:chkOrd (opsG Tryz.f187) oF157 10 #[true,true,false,false,true,false,true,false,true,false,false,false,false,false,false,false]=true:=ck_alt c156 rfl
def oF158:OrdT:=.alt 7 oF155 oF157
theorem w158:wellOrd oF158=true:=wl_alt w155 rfl w157 rfl
theorem c158:chkOrd (opsG Tryz.f187) oF158 10 #[true,true,false,false,true,false,true,false,true,false,false,false,false,false,false,false]=true:=ck_alt c155 c157
def oF159:OrdT:=.alt 5 oF145 oF158
theorem w159:wellOrd oF159=true:=wl_alt w145 rfl w158 rfl
theorem c159:chkOrd (opsG Tryz.f187) oF159 10 #[true,true,false,false,true,false,true,false,true,false,false,false,false,false,false,false]=true:=ck_alt c145 c158
def oF160:OrdT:=.alt 2 oF113 oF159
theorem w160:wellOrd oF160=true:=wl_alt w113 rfl w159 rfl
theorem c160:chkOrd (opsG Tryz.f187) oF160 10 #[true,true,false,false,true,false,true,false,true,false,false,false,false,false,false,false]=true:=ck_alt c113 c159
def oF161:OrdT:=.fork oF160
theorem w161:wellOrd oF161=true:=wl_fork w160 rfl
theorem c161:chkOrd (opsG Tryz.f187) oF161 11 #[true,true,false,false,true,false,true,false,true,false,false,false,false,false,false,false]=true:=ck_fork (by kernel_rfl) c160
def oF162:OrdT:=.cons 2 true oF114
theorem w162:wellOrd oF162=true:=wl_cons w114 rfl
theorem c162:chkOrd (opsG Tryz.f187) oF162 11 #[true,true,false,false,true,false,false,false,true,true,false,false,false,false,false,false]=true:=ck_T (by kernel_rfl) c114
def oF163:OrdT:=.alt 9 oF162 oF9
theorem w163:wellOrd oF163=true:=wl_alt w162 rfl w9 rfl
theorem c163:chkOrd (opsG Tryz.f187) oF163 11 #[true,true,false,false,true,false,false,false,true,false,false,false,false,false,false,false]=true:=ck_alt c162 rfl
def oF164:OrdT:=.alt 6 oF161 oF163
theorem w164:wellOrd oF164=true:=wl_alt w161 rfl w163 rfl
theorem c164:chkOrd (opsG Tryz.f187) oF164 11 #[true,true,false,false,true,false,false,false,true,false,false,false,false,false,false,false]=true:=ck_alt c161 c163
def oF165:OrdT:=.alt 5 oF150 oF164
theorem w165:wellOrd oF165=true:=wl_alt w150 rfl w164 rfl
theorem c165:chkOrd (opsG Tryz.f187) oF165 11 #[true,true,false,false,true,false,false,false,true,false,false,false,false,false,false,false]=true:=ck_alt c150 c164
def oF166:OrdT:=.alt 2 oF119 oF165
theorem w166:wellOrd oF166=true:=wl_alt w119 rfl w165 rfl
theorem c166:chkOrd (opsG Tryz.f187) oF166 11 #[true,true,false,false,true,false,false,false,true,false,false,false,false,false,false,false]=true:=ck_alt c119 c165
def oF167:OrdT:=.fork oF166
theorem w167:wellOrd oF167=true:=wl_fork w166 rfl
theorem c167:chkOrd (opsG Tryz.f187) oF167 12 #[true,true,false,false,true,false,false,false,true,false,false,false,false,false,false,false]=true:=ck_fork (by kernel_rfl) c166
def oF168:OrdT:=.cons 2 true oF120
theorem w168:wellOrd oF168=true:=wl_cons w120 rfl
theorem c168:chkOrd (opsG Tryz.f187) oF168 10 #[true,true,false,false,false,false,true,true,true,true,false,false,false,false,false,false]=true:=ck_T (by kernel_rfl) c120
def oF169:OrdT:=.alt 9 oF168 oF9
theorem w169:wellOrd oF169=true:=wl_alt w168 rfl w9 rfl
theorem c169:chkOrd (opsG Tryz.f187) oF169 10 #[true,true,false,false,false,false,true,true,true,false,false,false,false,false,false,false]=true:=ck_alt c168 rfl
def oF170:OrdT:=.alt 4 oF155 oF169
theorem w170:wellOrd oF170=true:=wl_alt w155 rfl w169 rfl
theorem c170:chkOrd (opsG Tryz.f187) oF170 10 #[true,true,false,false,false,false,true,true,true,false,false,false,false,false,false,false]=true:=ck_alt c155 c169
def oF171:OrdT:=.alt 2 oF124 oF170
theorem w171:wellOrd oF171=true:=wl_alt w124 rfl w170 rfl
theorem c171:chkOrd (opsG Tryz.f187) oF171 10 #[true,true,false,false,false,false,true,true,true,false,false,false,false,false,false,false]=true:=ck_alt c124 c170
def oF172:OrdT:=.fork oF171
theorem w172:wellOrd oF172=true:=wl_fork w171 rfl
theorem c172:chkOrd (opsG Tryz.f187) oF172 11 #[true,true,false,false,false,false,true,true,true,false,false,false,false,false,false,false]=true:=ck_fork (by kernel_rfl) c171
def oF173:OrdT:=.cons 2 true oF125
theorem w173:wellOrd oF173=true:=wl_cons w125 rfl
theorem c173:chkOrd (opsG Tryz.f187) oF173 11 #[true,true,false,false,false,false,true,false,true,true,false,false,false,false,false,false]=true:=ck_T (by kernel_rfl) c125
def oF174:OrdT:=.alt 9 oF173 oF9
theorem w174:wellOrd oF174=true:=wl_alt w173 rfl w9 rfl
theorem c174:chkOrd (opsG Tryz.f187) oF174 11 #[true,true,false,false,false,false,true,false,true,false,false,false,false,false,false,false]=true:=ck_alt c173 rfl
def oF175:OrdT:=.alt 7 oF172 oF174
theorem w175:wellOrd oF175=true:=wl_alt w172 rfl w174 rfl
theorem c175:chkOrd (opsG Tryz.f187) oF175 11 #[true,true,false,false,false,false,true,false,true,false,false,false,false,false,false,false]=true:=ck_alt c172 c174
def oF176:OrdT:=.alt 4 oF161 oF175
theorem w176:wellOrd oF176=true:=wl_alt w161 rfl w175 rfl
theorem c176:chkOrd (opsG Tryz.f187) oF176 11 #[true,true,false,false,false,false,true,false,true,false,false,false,false,false,false,false]=true:=ck_alt c161 c175
def oF177:OrdT:=.alt 2 oF130 oF176
theorem w177:wellOrd oF177=true:=wl_alt w130 rfl w176 rfl
theorem c177:chkOrd (opsG Tryz.f187) oF177 11 #[true,true,false,false,false,false,true,false,true,false,false,false,false,false,false,false]=true:=ck_alt c130 c176
def oF178:OrdT:=.fork oF177
theorem w178:wellOrd oF178=true:=wl_fork w177 rfl
theorem c178:chkOrd (opsG Tryz.f187) oF178 12 #[true,true,false,false,false,false,true,false,true,false,false,false,false,false,false,false]=true:=ck_fork (by kernel_rfl) c177
def oF179:OrdT:=.cons 2 true oF131
theorem w179:wellOrd oF179=true:=wl_cons w131 rfl
theorem c179:chkOrd (opsG Tryz.f187) oF179 12 #[true,true,false,false,false,false,false,false,true,true,false,false,false,false,false,false]=true:=ck_T (by kernel_rfl) c131
def oF180:OrdT:=.alt 9 oF179 oF9
theorem w180:wellOrd oF180=true:=wl_alt w179 rfl w9 rfl
theorem c180:chkOrd (opsG Tryz.f187) oF180 12 #[true,true,false,false,false,false,false,false,true,false,false,false,false,false,false,false]=true:=ck_alt c179 rfl
def oF181:OrdT:=.alt 6 oF178 oF180
theorem w181:wellOrd oF181=true:=wl_alt w178 rfl w180 rfl
theorem c181:chkOrd (opsG Tryz.f187) oF181 12 #[true,true,false,false,false,false,false,false,true,false,false,false,false,false,false,false]=true:=ck_alt c178 c180
def oF182:OrdT:=.alt 4 oF167 oF181
theorem w182:wellOrd oF182=true:=wl_alt w167 rfl w181 rfl
theorem c182:chkOrd (opsG Tryz.f187) oF182 12 #[true,true,false,false,false,false,false,false,true,false,false,false,false,false,false,false]=true:=ck_alt c167 c181
def oF183:OrdT:=.alt 2 oF136 oF182
theorem w183:wellOrd oF183=true:=wl_alt w136 rfl w182 rfl
theorem c183:chkOrd (opsG Tryz.f187) oF183 12 #[true,true,false,false,false,false,false,false,true,false,false,false,false,false,false,false]=true:=ck_alt c136 c182
def oF184:OrdT:=.fork oF183
theorem w184:wellOrd oF184=true:=wl_fork w183 rfl
theorem c184:chkOrd (opsG Tryz.f187) oF184 13 #[true,true,false,false,false,false,false,false,true,false,false,false,false,false,false,false]=true:=ck_fork (by kernel_rfl) c183
def oF185:OrdT:=.cons 8 true oF184
theorem w185:wellOrd oF185=true:=wl_cons w184 rfl
theorem c185:chkOrd (opsG Tryz.f187) oF185 14 #[true,true,false,false,false,false,false,false,false,false,false,false,false,false,false,false]=true:=ck_T (by kernel_rfl) c184
def oF186:OrdT:=.cons 1 true oF185
theorem w186:wellOrd oF186=true:=wl_cons w185 rfl
theorem c186:chkOrd (opsG Tryz.f187) oF186 15 #[true,false,false,false,false,false,false,false,false,false,false,false,false,false,false,false]=true:=ck_T (by kernel_rfl) c185
def oF187:OrdT:=.cons 0 true oF186
theorem w187:wellOrd oF187=true:=wl_cons w186 rfl
theorem c187:chkOrd (opsG Tryz.f187) oF187 16 #[false,false,false,false,false,false,false,false,false,false,false,false,false,false,false,false]=true:=ck_T (by kernel_rfl) c186
theorem cF_all:(Region.noSelect (opsG Tryz.f187) && (wellOrd oF187 && !isAlt oF187) && chkOrd (opsG Tryz.f187) oF187 (opsG Tryz.f187).size (Array.replicate (opsG Tryz.f187).size false))=true:=by
 have e:(opsG Tryz.f187).size=16:=by kernel_rfl
 have e2:Array.replicate 16 false = #[false,false,false,false,false,false,false,false,false,false,false,false,false,false,false,false]:=by kernel_rfl
 have e3:Region.noSelect (opsG Tryz.f187)=true:=by kernel_rfl
 have e4:isAlt oF187=false:=rfl
 rw [e,e2,e3,e4,w187,c187];rfl
set_option linter.unusedSimpArgs false
set_option maxHeartbeats 80000000 in
theorem con_isFormD (t:Tm) (hz:szL (tmC t)≤1000000000) (hk:t.kind=9):Con Tryz.prog 187 [.ag (tmC t)] [.one (.bool (isFm t))]:=by
 have hA:=con_arityI t
 have hN:=con_isNamed t hz
 have hT:=con_EqTyI t.ty (wT t) (sz_partsE hz).1
 have hR:=con_EqTyI t.res (wR t) (sz_partsE hz).2.1
 rw [isFm_eq]
 generalize isNm t=a at *
 generalize arF 0 t.kind t.name=ar at *
 generalize eqTy t.ty (wT t)=cT at *
 generalize eqTy t.res (wR t)=cR at *
 obtain ⟨k,s,o,n,⟨tk,ta⟩,⟨rk,ra⟩,xs⟩:=t
 simp only [Tm.kind,Tm.name,Tm.other,Tm.n,Tm.ty,Tm.res,Tm.args,wN,wO,wI,wT,wR] at hA hN hT hR hk ⊢
 clear hz
 subst hk
 all_goals
  simp only [if_true,if_false,Int.reduceEq,decide_true,Bool.true_and] at hT hR ⊢
  simp only [tyC,tmC] at hA hN hT hR
  refine con_run Tryz.func187 rfl rfl (by simp [Tryz.ntmps187]) ?_
  refine byP (fc tmC.eq_1 (fc tyC.eq_1 Tryz.ntmps187)) ?_
  refine sw_drawn (.cons 0 true (.cons 1 true (.cons 2 true (.cons 3 true (.cons 4 false (.cons 5 true (.nil))))))) (by kernel_rfl) fQ_panic (by kernel_rfl) (sw_run 200 _ _ _ ?_)
  refine byQ ?_
  refine sw_callD hA rfl (aAs_ok ?_) ?_ (sw_run 200 _ _ _ ?_)
  ·exact byQ True.intro
  ·simp only [okR]
  rcases pc ((xs.length:Int)=ar) with hl | hl
  case inr=>simp only [push_cast,↓reduceIte,Nat.reduceLT,Nat.reduceEqDiff,reduceCtorEq,hl,Tryz.results187]
  refine byP hl ?_
  refine sw_drawnKr id ⟨91,[(1,.bx 0 0),(2,.b false),(3,.bx 1 0)],[(0,[.i 9,.s s,.s o,.i n,.i tk,.br (.rows 2 ta.length (tysC ta)),.i rk,.br (.rows 2 ra.length (tysC ra)),.br (.rows 9 xs.length (tmsC xs))]),(1,[.i 9,.s s,.s o,.i 0,.i tk,.br (.rows 2 ta.length (tysC ta)),.i rk,.br (.rows 2 ra.length (tysC ra)),.nl 9])],[],2,[]⟩ oF187 (by kernel_rfl) cF_all (sw_run 200 _ _ _ ?_) (sw_run 200 _ _ _ ?_)
  ·simp (maxSteps:=100000000) only [push_cast,qKr,Sub,subT,subB,subO,subP,inj,AV.ren,AV.rens,AV.lt,AV.lts,↓reduceIte,Nat.reduceLT,Nat.reduceAdd,Nat.reduceLeDiff,Nat.reduceEqDiff,reduceCtorEq,oF0,oF1,oF2,oF3,oF4,oF5,oF6,oF7,oF8,oF9,oF10,oF11,oF12,oF13,oF14,oF15,oF16,oF17,oF18,oF19,oF20,oF21,oF22,oF23,oF24,oF25,oF26,oF27,oF28,oF29,oF30,oF31,oF32,oF33,oF34,oF35,oF36,oF37,oF38,oF39,oF40,oF41,oF42,oF43,oF44,oF45,oF46,oF47,oF48,oF49,oF50,oF51,oF52,oF53,oF54,oF55,oF56,oF57,oF58,oF59,oF60,oF61,oF62,oF63,oF64,oF65,oF66,oF67,oF68,oF69,oF70,oF71,oF72,oF73,oF74,oF75,oF76,oF77,oF78,oF79,oF80,oF81,oF82,oF83,oF84,oF85,oF86,oF87,oF88,oF89,oF90,oF91,oF92,oF93,oF94,oF95,oF96,oF97,oF98,oF99,oF100,oF101,oF102,oF103,oF104,oF105,oF106,oF107,oF108,oF109,oF110,oF111,oF112,oF113,oF114,oF115,oF116,oF117,oF118,oF119,oF120,oF121,oF122,oF123,oF124,oF125,oF126,oF127,oF128,oF129,oF130,oF131,oF132,oF133,oF134,oF135,oF136,oF137,oF138,oF139,oF140,oF141,oF142,oF143,oF144,oF145,oF146,oF147,oF148,oF149,oF150,oF151,oF152,oF153,oF154,oF155,oF156,oF157,oF158,oF159,oF160,oF161,oF162,oF163,oF164,oF165,oF166,oF167,oF168,oF169,oF170,oF171,oF172,oF173,oF174,oF175,oF176,oF177,oF178,oF179,oF180,oF181,oF182,oF183,oF184,oF185,oF186,oF187]
  refine byQ ?_
  refine sw_call hN rfl (aAs_ok ?_) ?_ (sw_run 200 _ _ _ ?_)
  ·exact byQ True.intro
  ·simp only [okR]
  cases a
  case false=>simp only [push_cast,↓reduceIte,Nat.reduceLT,Nat.reduceEqDiff,reduceCtorEq,Tryz.results187]
  rcases pc (n=0) with h0 | h0
  case inr=>simp only [push_cast,↓reduceIte,Nat.reduceLT,Nat.reduceEqDiff,reduceCtorEq,h0,Tryz.results187]
  refine byP h0 ?_
  refine sw_call hT rfl (aAs_ok ?_) ?_ (sw_run 200 _ _ _ ?_)
  ·exact byQ True.intro
  ·simp only [okR]
  cases cT
  case false=>simp only [push_cast,↓reduceIte,Nat.reduceLT,Nat.reduceEqDiff,reduceCtorEq,Tryz.results187]
  refine byQ ?_
  refine sw_call hR rfl (aAs_ok ?_) ?_ (sw_run 200 _ _ _ ?_)
  ·exact byQ True.intro
  ·simp only [okR]
  exact byP Tryz.results187 True.intro
end Go.Proofs.YtaidalilfmjfgaaGreat
