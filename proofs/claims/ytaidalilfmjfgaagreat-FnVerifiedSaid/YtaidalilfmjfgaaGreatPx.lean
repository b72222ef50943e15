import Derived.Test.YtaidalilfmjfgaaGreatDrk
import Derived.Test.YtaidalilfmjfgaaGreatRn
namespace Go.Proofs.YtaidalilfmjfgaaGreat
open Go.RowKit
set_option linter.unusedVariables false
set_option linter.unusedSimpArgs false
set_option maxRecDepth 20000
def rdx (s:ByteArray) (i:Nat) (b:Bool):List CD:=[.o (.str s),.o (.int i),.o (.bool b)]
def tkI (s u:ByteArray) (i:Nat) (x:Bool × Nat):Prop:=(x.1=true→x.2=i+u.size)∧(x.1=false→x.2=i)∧x.2≤s.size
def tkO (s:ByteArray) (b:Bool) (x:Bool × Nat):List (List CD):=[rdx s x.2 b]
def tkR (x:Bool × Nat):List RD:=[.one (.o (.bool x.1))]
def muI (s u:ByteArray) (i:Nat) (x:Nat × Bool):Prop:=(x.2=false→x.1=i+u.size)∧i≤x.1∧x.1≤s.size
def muO (s:ByteArray) (x:Nat × Bool):List (List CD):=[rdx s x.1 x.2]
def muR (x:Nat × Bool):List RD:=[]
def woI (s:ByteArray) (i:Nat) (x:ByteArray × Nat):Prop:=x.1.size=x.2-i∧i≤x.2∧x.2≤s.size
def woO (s:ByteArray) (b:Bool) (x:ByteArray × Nat):List (List CD):=[rdx s x.2 b]
def woR (x:ByteArray × Nat):List RD:=[.one (.o (.str x.1))]
def txI' (s:ByteArray) (i:Nat) (x:Ty × Nat × Bool):Prop:=tsz x.1≤2 * (x.2.1-i)∧i≤x.2.1∧x.2.1≤s.size
def txO' (s:ByteArray) (x:Ty × Nat × Bool):List (List CD):=[rdx s x.2.1 x.2.2]
def txR' (x:Ty × Nat × Bool):List RD:=[tyZ x.1]
def msz (t:Tm):Nat:=szL (tmC t)
def pxI (s:ByteArray) (i c:Nat) (x:Tm × Nat × Bool):Prop:=msz x.1≤8 * (x.2.1-i)+c∧i≤x.2.1∧x.2.1≤s.size
def pxO (s:ByteArray) (x:Tm × Nat × Bool):List (List CD):=[rdx s x.2.1 x.2.2]
def pxR (x:Tm × Nat × Bool):List RD:=[tmZ x.1]
theorem pxF (s:ByteArray):(∀ i b,rdx s i b=[.o (.str s),.o (.int i),.o (.bool b)])∧(∀ b x i,tkO s b (x,i)=[rdx s i b])∧(∀ x i,tkR (x,i)=[.one (.o (.bool x))])∧(∀ i b,muO s (i,b)=[rdx s i b])∧(∀ i b,muR (i,b)=[])∧(∀ b w i,woO s b (w,i)=[rdx s i b])∧(∀ w i,woR (w,i)=[.one (.o (.str w))])∧(∀ t i b,txO' s (t,i,b)=[rdx s i b])∧(∀ t i b,txR' (t,i,b)=[tyZ t])∧(∀ t i b,pxO s (t,i,b)=[rdx s i b])∧(∀ t i b,pxR (t,i,b)=[tmZ t]) ∧
  (∀ t,tyZ t = .ag [.r (.int t.kind),.r (.rows 2 t.args.length (tysC t.args))])∧(∀ t,tmZ t = .ag [.r (.int t.kind),.r (.str t.name),.r (.str t.other),.r (.int t.n),.r (.int t.ty.kind),.r (.rows 2 t.ty.args.length (tysC t.ty.args)),.r (.int t.res.kind),.r (.rows 2 t.res.args.length (tysC t.res.args)),.r (.rows 9 t.args.length (tmsC t.args))])∧(∀ k xs,(Ty.mk k xs).kind=k∧(Ty.mk k xs).args=xs)∧tysC []=[] :=
 ⟨fun _ _=>rfl,fun _ _ _=>rfl,fun _ _=>rfl,fun _ _=>rfl,fun _ _=>rfl,fun _ _ _=>rfl,fun _ _=>rfl,fun _ _ _=>rfl,fun _ _ _=>rfl,fun _ _ _=>rfl,fun _ _ _=>rfl,fun _=>rfl,fun _=>rfl,fun _ _=>⟨rfl,rfl⟩,rfl⟩
theorem con_takeX (u s:ByteArray) (hu:u.size≤100) (hl:s.size≤1000000) (i:Nat) (hi:i≤s.size) (b:Bool):ConX Tryz.prog 280 [.p (rdx s i b),.b (.one (.str u))] (tkI s u i) (tkO s b) tkR:=by
 cases b
 ·have hin:inI ((i:Int)+(u.size:Int)):=by unfold inI;omega
  by_cases h:i+u.size≤s.size
  ·have h2:¬ (s.size:Int)<(i:Int)+(u.size:Int):=by omega
   have h3:((i:Int)+(u.size:Int)).toNat=i+u.size:=by omega
   have h4:0≤(i:Int)∧(i:Int)≤(i:Int)+(u.size:Int)∧(i:Int)+(u.size:Int)≤(s.size:Int):=by omega
   obtain ⟨h5,h6,h7⟩:=h4
   by_cases hx:s.extract i (i+u.size)=u
   ·refine con_runX Tryz.func280 rfl rfl (by simp [Tryz.ntmps280]) (fun _ _=>rfl) ?_
    refine byP (fc (pxF s) (fc Tryz.ntmps280 Tryz.results280)) ?_
    refine sw_drawn (.cons 0 true (.cons 1 false (.cons 2 true (.cons 3 true (.cons 4 true (.cons 5 true (.cons 9 true (.cons 10 true (.cons 12 true (.fork (.alt 6 (.cons 7 true (.cons 8 true (.cons 11 true (.cons 13 false (.cons 14 true (.cons 15 true (.cons 16 true (.cons 17 true (.cons 18 true (.cons 19 true (.cons 20 true (.cons 24 true (.cons 28 true (.cons 32 true (.cons 33 true (.cons 36 true (.fork (.alt 21 (.cons 22 true (.cons 23 true (.fork (.alt 25 (.cons 26 true (.cons 27 true (.cons 29 false (.cons 30 true (.cons 31 true (.cons 34 true (.cons 35 true (.cons 37 true (.cons 38 true (.nil)))))))))) (.alt 29 (.cons 30 true (.cons 31 true (.cons 34 true (.cons 25 false (.cons 26 true (.cons 27 true (.cons 35 true (.cons 37 true (.cons 38 true (.nil)))))))))) (.last)))))) (.alt 25 (.cons 26 true (.cons 27 true (.fork (.alt 21 (.cons 22 true (.cons 23 true (.cons 29 false (.cons 30 true (.cons 31 true (.cons 34 true (.cons 35 true (.cons 37 true (.cons 38 true (.nil)))))))))) (.alt 29 (.cons 30 true (.cons 31 true (.cons 34 true (.cons 21 false (.cons 22 true (.cons 23 true (.cons 35 true (.cons 37 true (.cons 38 true (.nil)))))))))) (.last)))))) (.alt 29 (.cons 30 true (.cons 31 true (.cons 34 true (.fork (.alt 21 (.cons 22 true (.cons 23 true (.cons 25 false (.cons 26 true (.cons 27 true (.cons 35 true (.cons 37 true (.cons 38 true (.nil))))))))) (.alt 25 (.cons 26 true (.cons 27 true (.cons 21 false (.cons 22 true (.cons 23 true (.cons 35 true (.cons 37 true (.cons 38 true (.nil))))))))) (.last))))))) (.last))))))))))))))))))))) (.alt 13 (.cons 14 true (.cons 15 true (.cons 16 true (.cons 6 false (.cons 7 true (.cons 8 true (.cons 11 true (.cons 17 true (.cons 18 true (.cons 19 true (.cons 20 true (.cons 24 true (.cons 28 true (.cons 32 true (.cons 33 true (.cons 36 true (.fork (.alt 21 (.cons 22 true (.cons 23 true (.fork (.alt 25 (.cons 26 true (.cons 27 true (.cons 29 false (.cons 30 true (.cons 31 true (.cons 34 true (.cons 35 true (.cons 37 true (.cons 38 true (.nil)))))))))) (.alt 29 (.cons 30 true (.cons 31 true (.cons 34 true (.cons 25 false (.cons 26 true (.cons 27 true (.cons 35 true (.cons 37 true (.cons 38 true (.nil)))))))))) (.last)))))) (.alt 25 (.cons 26 true (.cons 27 true (.fork (.alt 21 (.cons 22 true (.cons 23 true (.cons 29 false (.cons 30 true (.cons 31 true (.cons 34 true (.cons 35 true (.cons 37 true (.cons 38 true (.nil)))))))))) (.alt 29 (.cons 30 true (.cons 31 true (.cons 34 true (.cons 21 false (.cons 22 true (.cons 23 true (.cons 35 true (.cons 37 true (.cons 38 true (.nil)))))))))) (.last)))))) (.alt 29 (.cons 30 true (.cons 31 true (.cons 34 true (.fork (.alt 21 (.cons 22 true (.cons 23 true (.cons 25 false (.cons 26 true (.cons 27 true (.cons 35 true (.cons 37 true (.cons 38 true (.nil))))))))) (.alt 25 (.cons 26 true (.cons 27 true (.cons 21 false (.cons 22 true (.cons 23 true (.cons 35 true (.cons 37 true (.cons 38 true (.nil))))))))) (.last))))))) (.last))))))))))))))))))))) (.last))))))))))))) (by kernel_rfl) fQX_panic (by kernel_rfl) ?_
    refine sw_run 200 _ _ _ (byP (fc h2 (fc h3 (fc h5 (fc h6 (fc h7 (fc hin (fc hx (fc cast1 (fc Tryz.ntmps280 Tryz.results280))))))))) ?_)
    repeat' (with_reducible apply And.intro)
    all_goals
     refine ⟨.inl rfl,(true,i+u.size),⟨fun _=>rfl,fun h=>by (cases h),h⟩, ?_⟩
     refine byP (fc (pxF s) (fc Int.natCast_add (fc Tryz.ntmps280 Tryz.results280))) ?_
     repeat' (with_reducible apply And.intro)
     all_goals first | exact True.intro | rfl
   ·refine con_runX Tryz.func280 rfl rfl (by simp [Tryz.ntmps280]) (fun _ _=>rfl) ?_
    refine byP (fc (pxF s) (fc Tryz.ntmps280 Tryz.results280)) ?_
    refine sw_drawn (.cons 0 true (.cons 1 false (.cons 2 true (.cons 3 true (.cons 4 true (.cons 5 true (.cons 9 true (.cons 10 true (.cons 12 true (.fork (.alt 6 (.cons 7 true (.cons 8 true (.cons 11 true (.cons 13 false (.cons 14 true (.cons 15 true (.cons 16 true (.cons 17 true (.cons 18 true (.cons 19 true (.cons 20 true (.cons 24 true (.cons 28 true (.cons 32 true (.cons 33 true (.cons 36 true (.fork (.alt 21 (.cons 22 true (.cons 23 true (.fork (.alt 25 (.cons 26 true (.cons 27 true (.cons 29 false (.cons 30 true (.cons 31 true (.cons 34 true (.cons 35 true (.cons 37 true (.cons 38 true (.nil)))))))))) (.alt 29 (.cons 30 true (.cons 31 true (.cons 34 true (.cons 25 false (.cons 26 true (.cons 27 true (.cons 35 true (.cons 37 true (.cons 38 true (.nil)))))))))) (.last)))))) (.alt 25 (.cons 26 true (.cons 27 true (.fork (.alt 21 (.cons 22 true (.cons 23 true (.cons 29 false (.cons 30 true (.cons 31 true (.cons 34 true (.cons 35 true (.cons 37 true (.cons 38 true (.nil)))))))))) (.alt 29 (.cons 30 true (.cons 31 true (.cons 34 true (.cons 21 false (.cons 22 true (.cons 23 true (.cons 35 true (.cons 37 true (.cons 38 true (.nil)))))))))) (.last)))))) (.alt 29 (.cons 30 true (.cons 31 true (.cons 34 true (.fork (.alt 21 (.cons 22 true (.cons 23 true (.cons 25 false (.cons 26 true (.cons 27 true (.cons 35 true (.cons 37 true (.cons 38 true (.nil))))))))) (.alt 25 (.cons 26 true (.cons 27 true (.cons 21 false (.cons 22 true (.cons 23 true (.cons 35 true (.cons 37 true (.cons 38 true (.nil))))))))) (.last))))))) (.last))))))))))))))))))))) (.alt 13 (.cons 14 true (.cons 15 true (.cons 16 true (.cons 6 false (.cons 7 true (.cons 8 true (.cons 11 true (.cons 17 true (.cons 18 true (.cons 19 true (.cons 20 true (.cons 24 true (.cons 28 true (.cons 32 true (.cons 33 true (.cons 36 true (.fork (.alt 21 (.cons 22 true (.cons 23 true (.fork (.alt 25 (.cons 26 true (.cons 27 true (.cons 29 false (.cons 30 true (.cons 31 true (.cons 34 true (.cons 35 true (.cons 37 true (.cons 38 true (.nil)))))))))) (.alt 29 (.cons 30 true (.cons 31 true (.cons 34 true (.cons 25 false (.cons 26 true (.cons 27 true (.cons 35 true (.cons 37 true (.cons 38 true (.nil)))))))))) (.last)))))) (.alt 25 (.cons 26 true (.cons 27 true (.fork (.alt 21 (.cons 22 true (.cons 23 true (.cons 29 false (.cons 30 true (.cons 31 true (.cons 34 true (.cons 35 true (.cons 37 true (.cons 38 true (.nil)))))))))) (.alt 29 (.cons 30 true (.cons 31 true (.cons 34 true (.cons 21 false (.cons 22 true (.cons 23 true (.cons 35 true (.cons 37 true (.cons 38 true (.nil)))))))))) (.last)))))) (.alt 29 (.cons 30 true (.cons 31 true (.cons 34 true (.fork (.alt 21 (.cons 22 true (.cons 23 true (.cons 25 false (.cons 26 true (.cons 27 true (.cons 35 true (.cons 37 true (.cons 38 true (.nil))))))))) (.alt 25 (.cons 26 true (.cons 27 true (.cons 21 false (.cons 22 true (.cons 23 true (.cons 35 true (.cons 37 true (.cons 38 true (.nil))))))))) (.last))))))) (.last))))))))))))))))))))) (.last))))))))))))) (by kernel_rfl) fQX_panic (by kernel_rfl) ?_
    refine sw_run 200 _ _ _ (byP (fc h2 (fc h3 (fc h5 (fc h6 (fc h7 (fc hin (fc hx (fc cast1 (fc Tryz.ntmps280 Tryz.results280))))))))) ?_)
    repeat' (with_reducible apply And.intro)
    all_goals
     refine ⟨.inl rfl,(false,i),⟨fun h=>by (cases h),fun _=>rfl,hi⟩, ?_⟩
     refine byP (fc (pxF s) (fc Tryz.ntmps280 Tryz.results280)) ?_
     repeat' (with_reducible apply And.intro)
     all_goals first | exact True.intro | rfl
  ·have h2:(s.size:Int)<(i:Int)+(u.size:Int):=by omega
   refine con_runX Tryz.func280 rfl rfl (by simp [Tryz.ntmps280]) (fun _ _=>rfl) ?_
   refine byP (fc (pxF s) (fc Tryz.ntmps280 Tryz.results280)) ?_
   refine sw_drawn (.cons 0 true (.cons 1 false (.cons 2 true (.cons 3 true (.cons 4 true (.cons 5 true (.cons 9 true (.cons 10 true (.cons 12 true (.fork (.alt 6 (.cons 7 true (.cons 8 true (.cons 11 true (.cons 13 false (.cons 14 true (.cons 15 true (.cons 16 true (.cons 17 true (.cons 18 true (.cons 19 true (.cons 20 true (.cons 24 true (.cons 28 true (.cons 32 true (.cons 33 true (.cons 36 true (.fork (.alt 21 (.cons 22 true (.cons 23 true (.fork (.alt 25 (.cons 26 true (.cons 27 true (.cons 29 false (.cons 30 true (.cons 31 true (.cons 34 true (.cons 35 true (.cons 37 true (.cons 38 true (.nil)))))))))) (.alt 29 (.cons 30 true (.cons 31 true (.cons 34 true (.cons 25 false (.cons 26 true (.cons 27 true (.cons 35 true (.cons 37 true (.cons 38 true (.nil)))))))))) (.last)))))) (.alt 25 (.cons 26 true (.cons 27 true (.fork (.alt 21 (.cons 22 true (.cons 23 true (.cons 29 false (.cons 30 true (.cons 31 true (.cons 34 true (.cons 35 true (.cons 37 true (.cons 38 true (.nil)))))))))) (.alt 29 (.cons 30 true (.cons 31 true (.cons 34 true (.cons 21 false (.cons 22 true (.cons 23 true (.cons 35 true (.cons 37 true (.cons 38 true (.nil)))))))))) (.last)))))) (.alt 29 (.cons 30 true (.cons 31 true (.cons 34 true (.fork (.alt 21 (.cons 22 true (.cons 23 true (.cons 25 false (.cons 26 true (.cons 27 true (.cons 35 true (.cons 37 true (.cons 38 true (.nil))))))))) (.alt 25 (.cons 26 true (.cons 27 true (.cons 21 false (.cons 22 true (.cons 23 true (.cons 35 true (.cons 37 true (.cons 38 true (.nil))))))))) (.last))))))) (.last))))))))))))))))))))) (.alt 13 (.cons 14 true (.cons 15 true (.cons 16 true (.cons 6 false (.cons 7 true (.cons 8 true (.cons 11 true (.cons 17 true (.cons 18 true (.cons 19 true (.cons 20 true (.cons 24 true (.cons 28 true (.cons 32 true (.cons 33 true (.cons 36 true (.fork (.alt 21 (.cons 22 true (.cons 23 true (.fork (.alt 25 (.cons 26 true (.cons 27 true (.cons 29 false (.cons 30 true (.cons 31 true (.cons 34 true (.cons 35 true (.cons 37 true (.cons 38 true (.nil)))))))))) (.alt 29 (.cons 30 true (.cons 31 true (.cons 34 true (.cons 25 false (.cons 26 true (.cons 27 true (.cons 35 true (.cons 37 true (.cons 38 true (.nil)))))))))) (.last)))))) (.alt 25 (.cons 26 true (.cons 27 true (.fork (.alt 21 (.cons 22 true (.cons 23 true (.cons 29 false (.cons 30 true (.cons 31 true (.cons 34 true (.cons 35 true (.cons 37 true (.cons 38 true (.nil)))))))))) (.alt 29 (.cons 30 true (.cons 31 true (.cons 34 true (.cons 21 false (.cons 22 true (.cons 23 true (.cons 35 true (.cons 37 true (.cons 38 true (.nil)))))))))) (.last)))))) (.alt 29 (.cons 30 true (.cons 31 true (.cons 34 true (.fork (.alt 21 (.cons 22 true (.cons 23 true (.cons 25 false (.cons 26 true (.cons 27 true (.cons 35 true (.cons 37 true (.cons 38 true (.nil))))))))) (.alt 25 (.cons 26 true (.cons 27 true (.cons 21 false (.cons 22 true (.cons 23 true (.cons 35 true (.cons 37 true (.cons 38 true (.nil))))))))) (.last))))))) (.last))))))))))))))))))))) (.last))))))))))))) (by kernel_rfl) fQX_panic (by kernel_rfl) ?_
   refine sw_run 200 _ _ _ (byP (fc h2 (fc hin (fc Tryz.ntmps280 Tryz.results280))) ?_)
   repeat' (with_reducible apply And.intro)
   all_goals
    refine ⟨.inl rfl,(false,i),⟨fun h=>by (cases h),fun _=>rfl,hi⟩, ?_⟩
    refine byP (fc (pxF s) (fc Tryz.ntmps280 Tryz.results280)) ?_
    repeat' (with_reducible apply And.intro)
    all_goals first | exact True.intro | rfl
 ·refine con_runX Tryz.func280 rfl rfl (by simp [Tryz.ntmps280]) (fun _ _=>rfl) ?_
  refine byP (fc (pxF s) (fc Tryz.ntmps280 Tryz.results280)) ?_
  refine sw_drawn (.cons 0 true (.cons 1 false (.cons 2 true (.cons 3 true (.cons 4 true (.cons 5 true (.cons 9 true (.cons 10 true (.cons 12 true (.fork (.alt 6 (.cons 7 true (.cons 8 true (.cons 11 true (.cons 13 false (.cons 14 true (.cons 15 true (.cons 16 true (.cons 17 true (.cons 18 true (.cons 19 true (.cons 20 true (.cons 24 true (.cons 28 true (.cons 32 true (.cons 33 true (.cons 36 true (.fork (.alt 21 (.cons 22 true (.cons 23 true (.fork (.alt 25 (.cons 26 true (.cons 27 true (.cons 29 false (.cons 30 true (.cons 31 true (.cons 34 true (.cons 35 true (.cons 37 true (.cons 38 true (.nil)))))))))) (.alt 29 (.cons 30 true (.cons 31 true (.cons 34 true (.cons 25 false (.cons 26 true (.cons 27 true (.cons 35 true (.cons 37 true (.cons 38 true (.nil)))))))))) (.last)))))) (.alt 25 (.cons 26 true (.cons 27 true (.fork (.alt 21 (.cons 22 true (.cons 23 true (.cons 29 false (.cons 30 true (.cons 31 true (.cons 34 true (.cons 35 true (.cons 37 true (.cons 38 true (.nil)))))))))) (.alt 29 (.cons 30 true (.cons 31 true (.cons 34 true (.cons 21 false (.cons 22 true (.cons 23 true (.cons 35 true (.cons 37 true (.cons 38 true (.nil)))))))))) (.last)))))) (.alt 29 (.cons 30 true (.cons 31 true (.cons 34 true (.fork (.alt 21 (.cons 22 true (.cons 23 true (.cons 25 false (.cons 26 true (.cons 27 true (.cons 35 true (.cons 37 true (.cons 38 true (.nil))))))))) (.alt 25 (.cons 26 true (.cons 27 true (.cons 21 false (.cons 22 true (.cons 23 true (.cons 35 true (.cons 37 true (.cons 38 true (.nil))))))))) (.last))))))) (.last))))))))))))))))))))) (.alt 13 (.cons 14 true (.cons 15 true (.cons 16 true (.cons 6 false (.cons 7 true (.cons 8 true (.cons 11 true (.cons 17 true (.cons 18 true (.cons 19 true (.cons 20 true (.cons 24 true (.cons 28 true (.cons 32 true (.cons 33 true (.cons 36 true (.fork (.alt 21 (.cons 22 true (.cons 23 true (.fork (.alt 25 (.cons 26 true (.cons 27 true (.cons 29 false (.cons 30 true (.cons 31 true (.cons 34 true (.cons 35 true (.cons 37 true (.cons 38 true (.nil)))))))))) (.alt 29 (.cons 30 true (.cons 31 true (.cons 34 true (.cons 25 false (.cons 26 true (.cons 27 true (.cons 35 true (.cons 37 true (.cons 38 true (.nil)))))))))) (.last)))))) (.alt 25 (.cons 26 true (.cons 27 true (.fork (.alt 21 (.cons 22 true (.cons 23 true (.cons 29 false (.cons 30 true (.cons 31 true (.cons 34 true (.cons 35 true (.cons 37 true (.cons 38 true (.nil)))))))))) (.alt 29 (.cons 30 true (.cons 31 true (.cons 34 true (.cons 21 false (.cons 22 true (.cons 23 true (.cons 35 true (.cons 37 true (.cons 38 true (.nil)))))))))) (.last)))))) (.alt 29 (.cons 30 true (.cons 31 true (.cons 34 true (.fork (.alt 21 (.cons 22 true (.cons 23 true (.cons 25 false (.cons 26 true (.cons 27 true (.cons 35 true (.cons 37 true (.cons 38 true (.nil))))))))) (.alt 25 (.cons 26 true (.cons 27 true (.cons 21 false (.cons 22 true (.cons 23 true (.cons 35 true (.cons 37 true (.cons 38 true (.nil))))))))) (.last))))))) (.last))))))))))))))))))))) (.last))))))))))))) (by kernel_rfl) fQX_panic (by kernel_rfl) ?_
  refine sw_run 200 _ _ _ (byP (fc Tryz.ntmps280 Tryz.results280) ?_)
  repeat' (with_reducible apply And.intro)
  all_goals
   refine ⟨.inl rfl,(false,i),⟨fun h=>by (cases h),fun _=>rfl,hi⟩, ?_⟩
   refine byP (fc (pxF s) (fc Tryz.ntmps280 Tryz.results280)) ?_
   repeat' (with_reducible apply And.intro)
   all_goals first | exact True.intro | rfl
theorem con_mustX (u s:ByteArray) (hu:u.size≤100) (hl:s.size≤1000000) (i:Nat) (hi:i≤s.size) (b:Bool):ConX Tryz.prog 281 [.p (rdx s i b),.b (.one (.str u))] (muI s u i) (muO s) muR:=by
 cases b
 ·have hT:=con_takeX u s hu hl i hi false
  refine con_runX Tryz.func281 rfl rfl (by simp [Tryz.ntmps281]) (fun _ _=>rfl) ?_
  refine byP (fc (pxF s) (fc Tryz.ntmps281 Tryz.results281)) ?_
  refine sw_callXR (hT) rfl rfl rfl (byP (pxF s) True.intro) (byP (pxF s) True.intro) (byP (pxF s) True.intro) ?_
  rintro ⟨x,j⟩ ⟨h1,h2,h3⟩
  simp only at h1 h2 h3
  cases x
  ·refine sw_run 200 _ _ _ (byP (fc (pxF s) (fc Tryz.ntmps281 Tryz.results281)) ?_)
   refine ⟨.inr rfl,(j,true),⟨fun h=>by (cases h),by have:=h2 rfl;omega,h3⟩, ?_⟩
   refine byP (fc (pxF s) (fc Tryz.ntmps281 Tryz.results281)) ?_
   repeat' (with_reducible apply And.intro)
   all_goals first | exact True.intro | rfl
  ·refine sw_run 200 _ _ _ (byP (fc (pxF s) (fc Tryz.ntmps281 Tryz.results281)) ?_)
   refine ⟨.inr rfl,(j,false),⟨fun _=>h1 rfl,by have:=h1 rfl;omega,h3⟩, ?_⟩
   refine byP (fc (pxF s) (fc Tryz.ntmps281 Tryz.results281)) ?_
   repeat' (with_reducible apply And.intro)
   all_goals first | exact True.intro | rfl
 ·refine con_runX Tryz.func281 rfl rfl (by simp [Tryz.ntmps281]) (fun _ _=>rfl) ?_
  refine byP (fc (pxF s) (fc Tryz.ntmps281 Tryz.results281)) ?_
  refine ⟨.inr rfl,(i,true),⟨fun h=>by (cases h),Nat.le_refl _,hi⟩, ?_⟩
  refine byP (fc (pxF s) (fc Tryz.ntmps281 Tryz.results281)) ?_
  repeat' (with_reducible apply And.intro)
  all_goals first | exact True.intro | rfl
set_option maxHeartbeats 4000000 in
theorem con_wordX (s:ByteArray) (hl:s.size≤1000000) (i:Nat) (hi:i≤s.size) (b:Bool):ConX Tryz.prog 284 [.p (rdx s i b)] (woI s i) (woO s b) woR:=by
 refine con_runX Tryz.func284 rfl rfl (by simp [Tryz.ntmps284]) (fun _ _=>rfl) ?_
 refine byP (fc (pxF s) (fc Tryz.ntmps284 Tryz.results284)) ?_
 refine sw_loop (fun j:Nat=>i≤j∧j≤s.size) (fun j=>⟨84,[(3,.i i),(0,.bx 0 0)],[(0,[.s s,.i j,.b b])],[],1,[0]⟩) (fun j=>s.size-j) i id ⟨Nat.le_refl _,hi⟩ ?_ ?_
 ·exact byQ True.intro
 rintro j ⟨hj1,hj2⟩
 have k1:0≤(i:Int):=by omega
 have k2:(i:Int)≤(j:Int):=by omega
 have k3:0≤(j:Int):=by omega
 have k4:(j:Int)≤(s.size:Int):=by omega
 have hin:inI ((j:Int)+1):=by unfold inI;omega
 refine sw_run 200 _ _ _ ?_
 refine byP (pxF s) ?_
 refine sw_drawn (.cons 0 true (.cons 1 true (.cons 2 true (.cons 3 true (.cons 4 true (.cons 5 true (.cons 6 true (.cons 7 true (.cons 8 true (.cons 9 true (.cons 10 true (.cons 11 true (.cons 12 true (.cons 13 true (.cons 14 true (.cons 15 true (.cons 16 true (.cons 17 true (.cons 18 true (.cons 19 true (.cons 20 true (.cons 21 true (.cons 22 true (.cons 23 true (.cons 24 true (.cons 25 true (.cons 26 true (.cons 27 true (.cons 28 true (.cons 29 true (.cons 30 true (.cons 31 true (.cons 32 true (.cons 33 true (.cons 34 true (.cons 35 true (.cons 36 true (.cons 37 true (.cons 38 true (.cons 39 true (.cons 40 true (.cons 41 true (.cons 42 true (.cons 43 true (.cons 44 true (.cons 45 true (.cons 46 true (.cons 47 true (.cons 48 true (.cons 49 true (.cons 50 true (.cons 51 true (.cons 52 true (.cons 53 true (.cons 54 true (.cons 55 true (.cons 56 true (.cons 57 true (.nil))))))))))))))))))))))))))))))))))))))))))))))))))))))))))) (by kernel_rfl) qLp_panic (by kernel_rfl) ?_
 by_cases hlt:(j:Int)<(s.size:Int)
 ·by_cases c1:48≤((s.data.getD j 0).toNat:Int)
  ·by_cases c2:((s.data.getD j 0).toNat:Int)≤57
   ·refine sw_run 200 _ _ _ (byP (fc (pxF s) (fc hlt (fc k3 (fc c1 (fc c2 (fc cast1 hin)))))) ?_)
    refine ⟨j+1,id,⟨by omega,by omega⟩,by omega, ?_⟩
    exact byP (fc cast1 (pxF s)) True.intro
   ·by_cases c3:97≤((s.data.getD j 0).toNat:Int)
    ·by_cases c4:((s.data.getD j 0).toNat:Int)≤122
     ·refine sw_run 200 _ _ _ (byP (fc (pxF s) (fc hlt (fc k3 (fc c1 (fc c2 (fc c3 (fc c4 (fc cast1 hin)))))))) ?_)
      refine ⟨j+1,id,⟨by omega,by omega⟩,by omega, ?_⟩
      exact byP (fc cast1 (pxF s)) True.intro
     ·refine sw_run 200 _ _ _ (byP (fc (pxF s) (fc hlt (fc k3 (fc c1 (fc c2 (fc c3 (fc c4 (fc cast1 hin)))))))) ?_)
      refine sw_run 200 _ _ _ ?_
      refine byP (pxF s) ?_
      refine sw_drawn (.cons 0 true (.cons 1 true (.cons 2 true (.cons 3 true (.cons 4 true (.cons 5 true (.cons 6 true (.cons 7 true (.cons 8 true (.cons 9 true (.cons 10 true (.nil)))))))))))) (by kernel_rfl) fQX_panic (by kernel_rfl) ?_
      refine sw_run 200 _ _ _ (byP (fc k1 (fc k2 (fc k3 (fc k4 (fc Tryz.ntmps284 Tryz.results284))))) ?_)
      refine ⟨.inl rfl,(s.extract i j,j),⟨by simp only [ByteArray.size_extract];omega,hj1,hj2⟩, ?_⟩
      refine byP (fc (pxF s) (fc Tryz.ntmps284 Tryz.results284)) ?_
      repeat' (with_reducible apply And.intro)
      all_goals first | exact True.intro | rfl
    ·refine sw_run 200 _ _ _ (byP (fc (pxF s) (fc hlt (fc k3 (fc c1 (fc c2 (fc c3 (fc cast1 hin))))))) ?_)
     refine sw_run 200 _ _ _ ?_
     refine byP (pxF s) ?_
     refine sw_drawn (.cons 0 true (.cons 1 true (.cons 2 true (.cons 3 true (.cons 4 true (.cons 5 true (.cons 6 true (.cons 7 true (.cons 8 true (.cons 9 true (.cons 10 true (.nil)))))))))))) (by kernel_rfl) fQX_panic (by kernel_rfl) ?_
     refine sw_run 200 _ _ _ (byP (fc k1 (fc k2 (fc k3 (fc k4 (fc Tryz.ntmps284 Tryz.results284))))) ?_)
     refine ⟨.inl rfl,(s.extract i j,j),⟨by simp only [ByteArray.size_extract];omega,hj1,hj2⟩, ?_⟩
     refine byP (fc (pxF s) (fc Tryz.ntmps284 Tryz.results284)) ?_
     repeat' (with_reducible apply And.intro)
     all_goals first | exact True.intro | rfl
  ·have c3:¬ 97≤((s.data.getD j 0).toNat:Int):=by omega
   refine sw_run 200 _ _ _ (byP (fc (pxF s) (fc hlt (fc k3 (fc c1 (fc c3 (fc cast1 hin)))))) ?_)
   refine sw_run 200 _ _ _ ?_
   refine byP (pxF s) ?_
   refine sw_drawn (.cons 0 true (.cons 1 true (.cons 2 true (.cons 3 true (.cons 4 true (.cons 5 true (.cons 6 true (.cons 7 true (.cons 8 true (.cons 9 true (.cons 10 true (.nil)))))))))))) (by kernel_rfl) fQX_panic (by kernel_rfl) ?_
   refine sw_run 200 _ _ _ (byP (fc k1 (fc k2 (fc k3 (fc k4 (fc Tryz.ntmps284 Tryz.results284))))) ?_)
   refine ⟨.inl rfl,(s.extract i j,j),⟨by simp only [ByteArray.size_extract];omega,hj1,hj2⟩, ?_⟩
   refine byP (fc (pxF s) (fc Tryz.ntmps284 Tryz.results284)) ?_
   repeat' (with_reducible apply And.intro)
   all_goals first | exact True.intro | rfl
 ·refine sw_run 200 _ _ _ (byP (fc (pxF s) hlt) ?_)
  refine sw_run 200 _ _ _ ?_
  refine byP (pxF s) ?_
  refine sw_drawn (.cons 0 true (.cons 1 true (.cons 2 true (.cons 3 true (.cons 4 true (.cons 5 true (.cons 6 true (.cons 7 true (.cons 8 true (.cons 9 true (.cons 10 true (.nil)))))))))))) (by kernel_rfl) fQX_panic (by kernel_rfl) ?_
  refine sw_run 200 _ _ _ (byP (fc k1 (fc k2 (fc k3 (fc k4 (fc Tryz.ntmps284 Tryz.results284))))) ?_)
  refine ⟨.inl rfl,(s.extract i j,j),⟨by simp only [ByteArray.size_extract];omega,hj1,hj2⟩, ?_⟩
  refine byP (fc (pxF s) (fc Tryz.ntmps284 Tryz.results284)) ?_
  repeat' (with_reducible apply And.intro)
  all_goals first | exact True.intro | rfl
theorem tszI:tsz gI=0∧tsz gB=0∧tsz (.mk 0 [])=0:=by decide
theorem tsz1 (a:Ty):tsz (.mk 4 [a])=1+tsz a:=sz_one 4 a
theorem tsz2 (a b:Ty):tsz (.mk 3 [a,b])=2+(tsz a+tsz b):=sz_two 3 a b
theorem tyL1 (a:Ty):tysC [a]=[.int a.kind,.rows 2 a.args.length (tysC a.args)]:=by rw [tysC,tysC,tyC_eq];rfl
theorem tyL2 (a b:Ty):tysC [a,b]=[.int a.kind,.rows 2 a.args.length (tysC a.args),.int b.kind,.rows 2 b.args.length (tysC b.args)]:=by rw [tysC,tyL1,tyC_eq];rfl
set_option maxHeartbeats 8000000 in
theorem con_typeX (s : ByteArray) (hl : s.size ≤ 1000000) : ∀ (d : Nat), d ≤ 8 → ∀ (i : Nat), i ≤ s.size → ∀ (b : Bool), ConX Tryz.prog 287 [.p (rdx s i b), .b (.one (.int (9 - (d : Int))))] (txI' s i) (txO' s) txR'
  | d, hd, i, hi, true => by
    refine con_runXF [0, 1, 2, 3, 4, 5, 6, 7, 8] Tryz.func287 rfl rfl (by simp [Tryz.ntmps287]) (fun _ _ => rfl) ?_
    refine byP (fc (pxF s) (fc Tryz.ntmps287 Tryz.results287)) ?_
    refine ⟨.inl rfl, ((.mk 0 []), i, true), ⟨by rw [show tsz _ = 0 from tszI.2.2]; exact Nat.zero_le _, Nat.le_refl _, hi⟩, ?_⟩
    refine byP (fc (pxF s) (fc Tryz.ntmps287 Tryz.results287)) ?_
    repeat' (with_reducible apply And.intro)
    all_goals first | exact True.intro | rfl
  | 0, hd, i, hi, false => by
    have h9 : 8 < (9 : Int) - ((0 : Nat) : Int) := by omega
    refine con_runXF [0, 1, 2, 3, 4, 5, 6, 7, 8] Tryz.func287 rfl rfl (by simp [Tryz.ntmps287]) (fun _ _ => rfl) ?_
    refine byP (fc (pxF s) (fc h9 (fc Tryz.ntmps287 Tryz.results287))) ?_
    refine ⟨.inl rfl, ((.mk 0 []), i, true), ⟨by rw [show tsz _ = 0 from tszI.2.2]; exact Nat.zero_le _, Nat.le_refl _, hi⟩, ?_⟩
    refine byP (fc (pxF s) (fc Tryz.ntmps287 Tryz.results287)) ?_
    repeat' (with_reducible apply And.intro)
    all_goals first | exact True.intro | rfl
  | d + 1, hd, i, hi, false => by
    have ih := con_typeX s hl d (by omega)
    have h9 : ¬ 8 < (9 : Int) - ((d + 1 : Nat) : Int) := by omega
    have hs : (9 : Int) - ((d + 1 : Nat) : Int) + 1 = 9 - (d : Int) := by omega
    have hin : inI (9 - (d : Int)) := by unfold inI; omega
    generalize (9 : Int) - ((d + 1 : Nat) : Int) = dp at *
    refine con_runXF [0, 1, 2, 3, 4, 5, 6, 7, 8] Tryz.func287 rfl rfl (by simp [Tryz.ntmps287]) (fun _ _ => rfl) ?_
    refine byP (fc (pxF s) (fc h9 (fc Tryz.ntmps287 Tryz.results287))) ?_
    refine sw_callXR (con_takeX ⟨#[73]⟩ s (by decide) hl i hi false) rfl rfl rfl (byP (pxF s) True.intro) (byP (pxF s) True.intro) (byP (pxF s) True.intro) ?_
    rintro ⟨x1, j1⟩ ⟨t1, t2, t3⟩
    simp only at t1 t2 t3
    cases x1
    case true =>
      refine sw_run 200 _ _ _ (byP (pxF s) ?_)
      refine sw_callPR (con_gI) rfl rfl rfl (byP (pxF s) True.intro) (byP (pxF s) True.intro) (byP (pxF s) True.intro) ?_
      refine sw_run 200 _ _ _ (byP (fc (pxF s) (fc Tryz.ntmps287 Tryz.results287)) ?_)
      refine ⟨.inl rfl, (gI, j1, false), ⟨by rw [show tsz _ = 0 from tszI.1]; exact Nat.zero_le _, by have := t1 rfl; simp only; omega, t3⟩, ?_⟩
      refine byP (fc (pxF s) (fc Tryz.ntmps287 Tryz.results287)) ?_
      repeat' (with_reducible apply And.intro)
      all_goals first | exact True.intro | rfl
    obtain rfl := t2 rfl
    refine sw_run 200 _ _ _ (byP (pxF s) ?_)
    refine sw_callXR (con_takeX ⟨#[66]⟩ s (by decide) hl j1 hi false) rfl rfl rfl (byP (pxF s) True.intro) (byP (pxF s) True.intro) (byP (pxF s) True.intro) ?_
    rintro ⟨x2, j2⟩ ⟨u1, u2, u3⟩
    simp only at u1 u2 u3
    cases x2
    case true =>
      refine sw_run 200 _ _ _ (byP (pxF s) ?_)
      refine sw_callPR (con_gB) rfl rfl rfl (byP (pxF s) True.intro) (byP (pxF s) True.intro) (byP (pxF s) True.intro) ?_
      refine sw_run 200 _ _ _ (byP (fc (pxF s) (fc Tryz.ntmps287 Tryz.results287)) ?_)
      refine ⟨.inl rfl, (gB, j2, false), ⟨by rw [show tsz _ = 0 from tszI.2.1]; exact Nat.zero_le _, by have := u1 rfl; simp only; omega, u3⟩, ?_⟩
      refine byP (fc (pxF s) (fc Tryz.ntmps287 Tryz.results287)) ?_
      repeat' (with_reducible apply And.intro)
      all_goals first | exact True.intro | rfl
    obtain rfl := u2 rfl
    refine sw_run 200 _ _ _ (byP (pxF s) ?_)
    refine sw_callXR (con_takeX ⟨#[60]⟩ s (by decide) hl j2 hi false) rfl rfl rfl (byP (pxF s) True.intro) (byP (pxF s) True.intro) (byP (pxF s) True.intro) ?_
    rintro ⟨x3, j3⟩ ⟨v1, v2, v3⟩
    simp only at v1 v2 v3
    have hB1 : (⟨#[60]⟩ : ByteArray).size = 1 := rfl
    have hB2 : (⟨#[40]⟩ : ByteArray).size = 1 := rfl
    cases x3
    case true =>
      have v4 := v1 rfl
      refine sw_run 200 _ _ _ (byP (fc (pxF s) (fc hs hin)) ?_)
      refine sw_callXR (ih j3 v3 false) rfl rfl rfl (byP (pxF s) True.intro) (byP (pxF s) True.intro) (byP (pxF s) True.intro) ?_
      rintro ⟨a, j4, b4⟩ ⟨ha, q1, q2⟩
      simp only at ha q1 q2
      refine sw_run 200 _ _ _ (byP (pxF s) ?_)
      refine sw_callXR (con_mustX ⟨#[62]⟩ s (by decide) hl j4 q2 b4) rfl rfl rfl (byP (pxF s) True.intro) (byP (pxF s) True.intro) (byP (pxF s) True.intro) ?_
      rintro ⟨j5, b5⟩ ⟨w1, w2, w3⟩
      simp only at w1 w2 w3
      refine sw_run 200 _ _ _ (byP (fc (pxF s) (fc Tryz.ntmps287 Tryz.results287)) ?_)
      refine ⟨.inl rfl, (.mk 4 [a], j5, b5), ⟨by show tsz (.mk 4 [a]) ≤ _; rw [tsz1]; simp only; omega, by simp only; omega, w3⟩, ?_⟩
      refine byP (fc (pxF s) (fc tyL1 (fc Tryz.ntmps287 Tryz.results287))) ?_
      repeat' (with_reducible apply And.intro)
      all_goals first | exact True.intro | rfl
    obtain rfl := v2 rfl
    refine sw_run 200 _ _ _ (byP (pxF s) ?_)
    refine sw_callXR (con_mustX ⟨#[40]⟩ s (by decide) hl j3 hi false) rfl rfl rfl (byP (pxF s) True.intro) (byP (pxF s) True.intro) (byP (pxF s) True.intro) ?_
    rintro ⟨j4, b4⟩ ⟨w1, w2, w3⟩
    simp only at w1 w2 w3
    cases b4
    case true =>
      refine sw_run 200 _ _ _ (byP (fc (pxF s) (fc Tryz.ntmps287 Tryz.results287)) ?_)
      refine ⟨.inl rfl, ((.mk 0 []), j4, true), ⟨by rw [show tsz _ = 0 from tszI.2.2]; exact Nat.zero_le _, w2, w3⟩, ?_⟩
      refine byP (fc (pxF s) (fc Tryz.ntmps287 Tryz.results287)) ?_
      repeat' (with_reducible apply And.intro)
      all_goals first | exact True.intro | rfl
    have w4 := w1 rfl
    refine sw_run 200 _ _ _ (byP (fc (pxF s) (fc hs hin)) ?_)
    refine sw_callXR (ih j4 w3 false) rfl rfl rfl (byP (pxF s) True.intro) (byP (pxF s) True.intro) (byP (pxF s) True.intro) ?_
    rintro ⟨a, j5, b5⟩ ⟨ha, q1, q2⟩
    simp only at ha q1 q2
    refine sw_run 200 _ _ _ (byP (pxF s) ?_)
    refine sw_callXR (con_mustX ⟨#[62]⟩ s (by decide) hl j5 q2 b5) rfl rfl rfl (byP (pxF s) True.intro) (byP (pxF s) True.intro) (byP (pxF s) True.intro) ?_
    rintro ⟨j6, b6⟩ ⟨y1, y2, y3⟩
    simp only at y1 y2 y3
    cases b6
    case true =>
      refine sw_run 200 _ _ _ (byP (fc (pxF s) (fc Tryz.ntmps287 Tryz.results287)) ?_)
      refine ⟨.inl rfl, ((.mk 0 []), j6, true), ⟨by rw [show tsz _ = 0 from tszI.2.2]; exact Nat.zero_le _, by simp only; omega, y3⟩, ?_⟩
      refine byP (fc (pxF s) (fc Tryz.ntmps287 Tryz.results287)) ?_
      repeat' (with_reducible apply And.intro)
      all_goals first | exact True.intro | rfl
    refine sw_run 200 _ _ _ (byP (fc (pxF s) (fc hs hin)) ?_)
    refine sw_callXR (ih j6 y3 false) rfl rfl rfl (byP (pxF s) True.intro) (byP (pxF s) True.intro) (byP (pxF s) True.intro) ?_
    rintro ⟨c, j7, b7⟩ ⟨hc, r1, r2⟩
    simp only at hc r1 r2
    refine sw_run 200 _ _ _ (byP (pxF s) ?_)
    refine sw_callXR (con_mustX ⟨#[41]⟩ s (by decide) hl j7 r2 b7) rfl rfl rfl (byP (pxF s) True.intro) (byP (pxF s) True.intro) (byP (pxF s) True.intro) ?_
    rintro ⟨j8, b8⟩ ⟨z1, z2, z3⟩
    simp only at z1 z2 z3
    refine sw_run 200 _ _ _ (byP (fc (pxF s) (fc Tryz.ntmps287 Tryz.results287)) ?_)
    refine ⟨.inl rfl, (.mk 3 [a, c], j8, b8), ⟨by show tsz (.mk 3 [a, c]) ≤ _; rw [tsz2]; simp only; omega, by simp only; omega, z3⟩, ?_⟩
    refine byP (fc (pxF s) (fc tyL2 (fc Tryz.ntmps287 Tryz.results287))) ?_
    repeat' (with_reducible apply And.intro)
    all_goals first | exact True.intro | rfl
theorem con_numX (s : ByteArray) (hl : s.size ≤ 1000000) (i : Nat) (hi : i ≤ s.size) (b : Bool) : ConX Tryz.prog 283 [.p (rdx s i b)] (pxI s i 0) (pxO s) pxR := by
  refine con_runXF [0, 1, 2, 3, 4, 5, 6, 7, 8] Tryz.func283 rfl rfl (by simp [Tryz.ntmps283]) (fun _ _ => rfl) ?_
  refine byP (fc (pxF s) (fc Tryz.ntmps283 Tryz.results283)) ?_
  refine sw_callXR (con_wordX s hl i hi b) rfl rfl rfl (byP (pxF s) True.intro) (byP (pxF s) True.intro) (byP (pxF s) True.intro) ?_
  rintro ⟨w, j⟩ ⟨hw, q1, q2⟩
  simp only at hw q1 q2
  have hN := con_PNS w (by omega)
  generalize nsP w = r at *
  obtain ⟨n, ok⟩ := r
  simp only at hN
  refine sw_run 200 _ _ _ (byP (pxF s) ?_)
  refine sw_call (hN) rfl (aAs_ok (byQ True.intro)) (byQ True.intro) ?_
  have fin : pxI s i 0 (.mk 2 ⟨#[]⟩ ⟨#[]⟩ n (.mk 0 []) (.mk 0 []) [], j, true) ∧ pxI s i 0 (.mk 2 ⟨#[]⟩ ⟨#[]⟩ n (.mk 0 []) (.mk 0 []) [], j, false) := ⟨⟨Nat.zero_le _, q1, q2⟩, ⟨Nat.zero_le _, q1, q2⟩⟩
  cases ok <;> cases b
  all_goals
    refine sw_run 200 _ _ _ (byP (pxF s) ?_)
    refine sw_callPR (con_intA n) rfl rfl rfl (byQ True.intro) (byQ True.intro) (byQ True.intro) ?_
    refine sw_run 200 _ _ _ (byP (fc (pxF s) (fc Tryz.ntmps283 Tryz.results283)) ?_)
  all_goals first
    | (refine ⟨.inl rfl, (.mk 2 ⟨#[]⟩ ⟨#[]⟩ n (.mk 0 []) (.mk 0 []) [], j, true), fin.1, ?_⟩
       refine byP (fc (pxF s) (fc mkF (fc Tryz.ntmps283 Tryz.results283))) ?_
       repeat' (with_reducible apply And.intro)
       all_goals first | exact True.intro | rfl
       done)
    | (refine ⟨.inl rfl, (.mk 2 ⟨#[]⟩ ⟨#[]⟩ n (.mk 0 []) (.mk 0 []) [], j, false), fin.2, ?_⟩
       refine byP (fc (pxF s) (fc mkF (fc Tryz.ntmps283 Tryz.results283))) ?_
       repeat' (with_reducible apply And.intro)
       all_goals first | exact True.intro | rfl
       done)
end Go.Proofs.YtaidalilfmjfgaaGreat
