import Derived.Test.YtaidalilfmjfgaaGreatDrn
import Derived.Test.YtaidalilfmjfgaaGreatSafe
namespace Go.Proofs.YtaidalilfmjfgaaGreat
open Go.Proofs.Tryz
open Go.RowKit
set_option linter.unusedVariables false
set_option linter.unusedSimpArgs false
set_option maxRecDepth 20000
def gI:Ty:=.mk 1 []
def gB:Ty:=.mk 2 []
def gC (t:Ty):Ty:=.mk 4 [t]
def tyZ (t:Ty):RD:=.ag [.r (.int t.kind),.r (.rows 2 t.args.length (Ai t.args))]
def aJb (x:Ty × Nat × Int):List RD:=[tyZ x.1]
theorem drZ (zs:List Int):(∀ i h,AK zs i h=[.r (.rows 1 zs.length (zs.map D.byt)),.o (.int i),.o (.int h)])∧(∀ v i h,Fv zs (v,i,h)=[AK zs i h])∧(∀ v i h,Fu (v,i,h)=[.one (.o (.int v))])∧(∀ v i h,Xu zs (v,i,h)=[AK zs i h])∧(∀ v i h,XK (v,i,h)=[.one (.o (.bool v))])∧(∀ v i h,txO zs (v,i,h)=[AK zs i h])∧(∀ v i h,txR (v,i,h)=[.one (.o (.str v))])∧(∀ v i h,tyO zs (v,i,h)=[AK zs i h])∧(∀ v i h,aJb (v,i,h)=[tyZ v])∧(∀ v i h,tmO zs (v,i,h)=[AK zs i h])∧(∀ v i h,KZ (v,i,h)=[tmZ v])∧(∀ t,tyZ t = .ag [.r (.int t.kind),.r (.rows 2 t.args.length (Ai t.args))])∧(∀ t,tmZ t = .ag [.r (.int t.kind),.r (.str t.name),.r (.str t.other),.r (.int t.n),.r (.int t.ty.kind),.r (.rows 2 t.ty.args.length (Ai t.ty.args)),.r (.int t.res.kind),.r (.rows 2 t.res.args.length (Ai t.res.args)),.r (.rows 9 t.args.length (Av t.args))]) :=
 ⟨fun _ _=>rfl,fun _ _ _=>rfl,fun _ _ _=>rfl,fun _ _ _=>rfl,fun _ _ _=>rfl,fun _ _ _=>rfl,fun _ _ _=>rfl,fun _ _ _=>rfl,fun _ _ _=>rfl,fun _ _ _=>rfl,fun _ _ _=>rfl,fun _=>rfl,fun _=>rfl⟩
theorem LJ {t:Ty} (h:BE t=true):(t.kind=1∧t.args=[])∨(t.kind=2∧t.args=[])∨(t.kind=3∧t.args.length=2∧BE t.args[0]! = true∧BE t.args[1]! = true∧szL (tyC t)=2+(szL (tyC t.args[0]!)+szL (tyC t.args[1]!)))∨(t.kind=4∧t.args.length=1∧BE t.args[0]! = true∧szL (tyC t)=1+szL (tyC t.args[0]!)):=by
 obtain ⟨k,xs⟩:=t
 rw [BE] at h
 simp only [Bool.and_eq_true] at h
 obtain ⟨h1,h2⟩:=h
 simp only [Ty.kind,Ty.args]
 unfold shB at h2
 split at h2
 ·rename_i hk
  have:xs=[]:=List.eq_nil_of_length_eq_zero (by simpa using h2)
  rcases hk with hk | hk
  ·exact .inl ⟨hk,this⟩
  ·exact .inr (.inl ⟨hk,this⟩)
 ·split at h2
  ·rename_i hk
   have hl:xs.length=2:=by have:=of_decide_eq_true h2;omega
   match xs,hl with
   | [a,b],_ =>
    simp only [Dc,Bool.and_eq_true] at h1
    exact .inr (.inr (.inl ⟨hk,rfl,h1.1,h1.2.1,Pd k a b⟩))
  ·split at h2
   ·rename_i hk
    have hl:xs.length=1:=by have:=of_decide_eq_true h2;omega
    match xs,hl with
    | [a],_ =>
     simp only [Dc,Bool.and_eq_true] at h1
     exact .inr (.inr (.inr ⟨hk,rfl,h1.1,Lj k a⟩))
   ·cases h2
def gOk (g:Tg):Prop:=g.name.size≤1∧BE g.ty=true∧szL (tyC g.ty)≤30
def Cx (m:Nat) (ctx:List Tg):Prop:=ctx.length≤m∧∀ g ∈ ctx,gOk g
theorem aHq (g:Tg):szL (tgC g)=g.name.size+szL (tyC g.ty):=by
 obtain ⟨n,⟨k,xs⟩,l⟩:=g
 simp only [tgC,GB,tyC,szL,szD,Ty.args]
theorem aFO {m:Nat} {ctx:List Tg} (h:Cx m ctx):szL (flC tgC ctx)≤m * 31:=by
 refine Nat.le_trans (XI tgC 31 ctx fun g hg => ?_) (Nat.mul_le_mul_right _ h.1)
 have:=h.2 g hg
 rw [aHq]
 have h1:=this.1
 have h2:=this.2.2
 omega
theorem OW {m:Nat} {ctx:List Tg} (h:Cx m ctx) {g:Tg} (hg:gOk g):Cx (m+1) (ctx++[g]) :=
 ⟨by have:=h.1;simp;omega,fun x hx=>by
  rcases List.mem_append.1 hx with hx | hx
  ·exact h.2 x hx
  ·rw [List.mem_singleton.1 hx];exact hg⟩
theorem Kg (ctx:List Tg) (n:Int):∀ k,k≤ctx.length→∀ g ∈ Bp ctx n k,g ∈ ctx
 | 0,_,g,h=>by rw [Bp] at h;cases h
 | k+1,hk,g,h=>by
  rw [Bp] at h
  split at h
  ·rcases List.mem_append.1 h with h | h
   ·exact Kg ctx n k (by omega) g h
   ·rw [List.mem_singleton.1 h];exact Ab hk
  ·exact Kg ctx n k (by omega) g h
theorem Zh {m:Nat} {ctx:List Tg} (h:Cx m ctx) (n:Int):Cx m (Bp ctx n ctx.length) :=
 ⟨Nat.le_trans (GV ctx n _) h.1,fun g hg=>h.2 g (Kg ctx n _ (Nat.le_refl _) g hg)⟩
mutual
def GD:Ty→Nat
 | .mk k xs=>if k=4 then 1+aDT xs else 0
def aDT:List Ty→Nat
 | []=>0
 | a :: _=>GD a
end
theorem Pv {t:Ty} (hk:t.kind=4) (hl:t.args.length=1):GD t=1+GD t.args[0]! := by
 obtain ⟨k,xs⟩:=t
 simp only [Ty.kind] at hk
 simp only [Ty.args] at hl ⊢
 match xs,hl with
 | [a],_=>rw [GD,if_pos hk,aDT];rfl
theorem HG {t:Ty} (hk:¬ t.kind=4):GD t=0:=by
 obtain ⟨k,xs⟩:=t
 simp only [Ty.kind] at hk
 rw [GD,if_neg hk]
theorem NA:∀ (m:Nat) (t:Ty),szL (tyC t)≤m→BE t=true→GD t≤m
 | m,t,h,hf=>by
  rcases LJ hf with g | g | g | g
  ·rw [HG (by omega)];omega
  ·rw [HG (by omega)];omega
  ·rw [HG (by omega)];omega
  ·obtain ⟨hk,hl,hf0,hs⟩:=g
   rw [Pv hk hl]
   cases m with
   | zero=>omega
   | succ m =>
    have:=NA m t.args[0]! (by omega) hf0
    omega
theorem Dt (k:Int) (xs:List Tm):szL (tmC (CZ k xs))=xs.length+szL (Av xs):=by
 rw [BM];show 0+0+0+0+_=_;simp only [CZ,Tm.args];omega
theorem Wd (s:ByteArray) (xs:List Tm):szL (tmC (tOp s xs))=s.size+(xs.length+szL (Av xs)):=by
 rw [BM];show s.size+0+0+0+_=_;simp only [tOp,Tm.args];omega
theorem Pe (s:ByteArray) (t:Ty) (e:Tm):szL (tmC (Um s t e))=s.size+szL (tyC t)+(1+szL (tmC e)):=by
 rw [BM];show s.size+0+szL (tyC t)+0+_=_
 simp only [Um,Tm.args,List.length_cons,List.length_nil,Av,List.append_nil]
 omega
def aDb (s:ByteArray) (a b:Tm):Tm:=.mk 8 s e0 0 ty0 ty0 [a,b]
theorem aBT (s:ByteArray) (a b:Tm):szL (tmC (aDb s a b))=s.size+(2+(szL (tmC a)+szL (tmC b))):=by
 rw [BM];show s.size+0+0+0+_=_
 simp only [aDb,Tm.args,List.length_cons,List.length_nil,Av,List.append_nil,Ah]
 omega
theorem OK:Bc prog 202 [] [] [tyZ gB]:=by
 refine Jj (args:=[]) (rs:=[.ag (tyC gB)]) ?_ trivial
 refine Af func202 rfl rfl (by simp [ntmps202]) ?_
 refine byP (fc ntmps202 results202) ?_
 exact ⟨rfl,rfl,rfl⟩
theorem Le:Bc prog 201 [] [] [tyZ gI]:=by
 refine Jj (args:=[]) (rs:=[.ag (tyC gI)]) ?_ trivial
 refine Af func201 rfl rfl (by simp [ntmps201]) ?_
 refine byP (fc ntmps201 results201) ?_
 exact ⟨rfl,rfl,rfl⟩
theorem aHK (t:Ty):toR (.ag (tyC t))=tyZ t:=by rw [Au];rfl
theorem aF8 (t:Tm):toR (.ag (tmC t))=tmZ t:=by rw [Ak];rfl
theorem Vm {f:FuncId} {args:List PD} {t:Ty} (h:Con prog f args [.ag (tyC t)]):Bc prog f (args.map PA.b) [] [tyZ t]:=by
 have:=Jj h trivial
 rw [List.map_cons,List.map_nil,aHK] at this
 exact this
theorem Fs {f:FuncId} {args:List PD} {t:Tm} (h:Con prog f args [.ag (tmC t)]):Bc prog f (args.map PA.b) [] [tmZ t]:=by
 have:=Jj h trivial
 rw [List.map_cons,List.map_nil,aF8] at this
 exact this
theorem Il (t:Ty) (ht:szL (tyC t)≤1000000):Bc prog 203 [.b (.ag [.int t.kind,.rows 2 t.args.length (Ai t.args)])] [] [tyZ (gC t)]:=by
 have:=Vm (GW t (by omega))
 rw [Au] at this
 exact this
theorem XN (a b:Ty) (ha:szL (tyC a)≤1000000) (hb:szL (tyC b)≤1000000):Bc prog 204 [.b (.ag [.int a.kind,.rows 2 a.args.length (Ai a.args)]),.b (.ag [.int b.kind,.rows 2 b.args.length (Ai b.args)])] [] [tyZ (.mk 3 [a,b])]:=by
 have:=Vm (In a b (by omega) (by omega))
 rw [Au,Au] at this
 exact this
theorem IY (e:Tm):Av [e]=tmC e:=by rw [Av,Av,List.append_nil]
theorem Qv (a b:Tm):Av [a,b]=tmC a++tmC b:=by rw [Av,IY]
theorem aEA (a b c:Tm):Av [a,b,c]=tmC a++(tmC b++tmC c):=by rw [Av,Qv]
theorem CH (k:Int) (e:Tm) (hz:szL (tmC e)≤1000000):Bc prog 188 [.b (.one (.int k)),.b (.one (.rows 9 1 (tmC e)))] [] [tmZ (CZ k [e])]:=by
 have:=Fs (DF k [e] (by rw [IY];simp only [List.length_cons,List.length_nil];omega))
 rw [IY] at this
 exact this
theorem SB (k:Int) (a b:Tm) (ha:szL (tmC a)≤1000000) (hb:szL (tmC b)≤1000000):Bc prog 188 [.b (.one (.int k)),.b (.one (.rows 9 2 (tmC a++tmC b)))] [] [tmZ (CZ k [a,b])]:=by
 have:=Fs (DF k [a,b] (by rw [Qv,Ah];simp only [List.length_cons,List.length_nil];omega))
 rw [Qv] at this
 exact this
theorem Sn (k:Int) (a b c:Tm) (ha:szL (tmC a)≤1000000) (hb:szL (tmC b)≤1000000) (hc:szL (tmC c)≤1000000):Bc prog 188 [.b (.one (.int k)),.b (.one (.rows 9 3 (tmC a++(tmC b++tmC c))))] [] [tmZ (CZ k [a,b,c])]:=by
 have:=Fs (DF k [a,b,c] (by rw [aEA,Ah,Ah];simp only [List.length_cons,List.length_nil];omega))
 rw [aEA] at this
 exact this
theorem Zp (s:ByteArray) (e:Tm) (hz:szL (tmC e)≤1000000):Bc prog 117 [.b (.one (.str s)),.b (.one (.rows 9 1 (tmC e)))] [] [tmZ (tOp s [e])]:=by
 have:=Fs (NF s [e] (by rw [IY];simp only [List.length_cons,List.length_nil];omega))
 rw [IY] at this
 exact this
theorem MJ (s:ByteArray) (a b:Tm) (ha:szL (tmC a)≤1000000) (hb:szL (tmC b)≤1000000):Bc prog 117 [.b (.one (.str s)),.b (.one (.rows 9 2 (tmC a++tmC b)))] [] [tmZ (tOp s [a,b])]:=by
 have:=Fs (NF s [a,b] (by rw [Qv,Ah];simp only [List.length_cons,List.length_nil];omega))
 rw [Qv] at this
 exact this
theorem HL (s:ByteArray) (t:Ty) (e:Tm) (hz:szL (tmC e)≤1000000) (ht:szL (tyC t)≤1000000):Bc prog 256 [.b (.one (.str s)),.b (.ag [.int t.kind,.rows 2 t.args.length (Ai t.args)]),.b (.ag (tmC e))] [] [tmZ (Um s t e)]:=by
 have:=Fs (Tj s t e (by omega) (by omega))
 rw [Au] at this
 exact this
theorem Wx (s:ByteArray) (a b:Tm) (ha:szL (tmC a)≤1000000) (hb:szL (tmC b)≤1000000):Bc prog 274 [.b (.one (.str s)),.b (.ag (tmC a)),.b (.ag (tmC b))] [] [tmZ (aDb s a b)]:=by
 refine Fs (args:=[.one (.str s),.ag (tmC a),.ag (tmC b)]) ?_
 have hN:=DF 8 [a,b] (by rw [Qv,Ah];simp only [List.length_cons,List.length_nil];omega)
 rw [Qv] at hN
 refine Af func274 rfl rfl (by simp [ntmps274]) ?_
 refine byP (fc ntmps274 results274) ?_
 refine Kc hN ?_
 refine rG (fc ntmps274 results274) ?_
 exact ⟨rfl,rfl,rfl,rfl,rfl,rfl,rfl,rfl,rfl⟩
theorem Gs (xs:List Tg) (s:ByteArray) (t:Ty) (n:Int) (hl:xs.length≤1000000):Bc prog 257 [.b (.one (.rows 4 xs.length (flC tgC xs))),.b (.one (.str s)),.b (.ag [.int t.kind,.rows 2 t.args.length (Ai t.args)]),.b (.one (.int n))] [] [.one (.r (.rows 4 (xs++[(⟨s,t,n⟩:Tg)]).length (flC tgC (xs++[(⟨s,t,n⟩:Tg)]))))]:=by
 rw [List.length_append,AM,AA]
 simp only [tgC,GB,List.length_cons,List.length_nil,Nat.zero_add]
 refine BZ [0,1,2,3,4,5] func257 rfl rfl (by simp [ntmps257]) rfl ?_
 refine byP (fc ntmps257 results257) ?_
 exact ⟨⟨fun _ _=>trivial,by unfold maxLen;omega,by omega⟩,fun o h=>by omega,by unfold maxLen;omega,by omega⟩
theorem RT {m:Nat} (xs:List Tg) (n:Int) (h:Cx m xs) (hm:m≤1000000):Bc prog 266 [.b (.one (.rows 4 xs.length (flC tgC xs))),.b (.one (.int n))] [] [.one (.r (.rows 4 (Bp xs n xs.length).length (flC tgC (Bp xs n xs.length))))] :=
 Jj (Hk xs n (by
  have h1:=aFO h
  have h2:=h.1
  show xs.length+szL (flC tgC xs)≤_
  omega)) trivial
theorem NR:∀ (m:Nat) (t:Ty),szL (tyC t)≤m→m≤1000→BE t=true→Con prog 275 [.ag [.int t.kind,.rows 2 t.args.length (Ai t.args)]] [.one (.int (GD t))]
 | m,t,hz,hm,hf=>by
  by_cases hk:t.kind=4
  ·rcases LJ hf with g | g | g | g
   all_goals try (exfalso;omega)
   obtain ⟨_,hl,hf0,hs⟩:=g
   cases m with
   | zero=>omega
   | succ m =>
    have ih:=NR m t.args[0]! (by omega) (by omega) hf0
    have hb:=NA m t.args[0]! (by omega) hf0
    have i0:(0:Int)<(t.args.length:Int):=by omega
    have r0:=Ax t.args 0 (by omega)
    have hin:inI (1+(GD t.args[0]! : Int)):=by unfold inI;omega
    have he:(GD t:Int)=1+(GD t.args[0]! : Int):=by rw [Pv hk hl];omega
    rw [he]
    refine Af func275 rfl rfl (by simp [ntmps275]) ?_
    refine byP (fc hk (fc i0 (fc r0 (fc ntmps275 results275)))) ?_
    refine Kc ih ?_
    refine rG (fc ntmps275 results275) ?_
    exact hin
  ·rw [HG hk]
   refine Af func275 rfl rfl (by simp [ntmps275]) ?_
   exact byP (fc hk (fc ntmps275 results275)) tI
def pcI (zs:List Int) (x:Ty × Nat × Int):Prop:=(szL (tyC x.1)≤2∧BE x.1=true)∧x.2.1≤zs.length
theorem SN (zs:List Int) (hz:CT zs) (n:Int) (i:Nat) (hi:i≤zs.length) (h:Int):Bz prog 273 [.p (AK zs i h),.b (.one (.int n))] (pcI zs) (tyO zs) aJb:=by
 have hO:=fun m hm hm2 i hi h=>CX zs hz m hm hm2 i hi h
 have p1:szL (tyC gI)≤2∧BE gI=true:=by decide
 have p2:szL (tyC (.mk 3 [gI,gI]))≤2∧BE (.mk 3 [gI,gI])=true:=by decide
 have p3:szL (tyC (gC gI))≤2∧BE (gC gI)=true:=by decide
 have hC:=Il gI (by decide)
 have hF:=XN gI gI (by decide) (by decide)
 refine AF func273 rfl rfl (by simp [ntmps273]) (fun _ _=>rfl) ?_
 refine byP (fc (drZ zs) (fc ntmps273 results273)) ?_
 refine Bo (Le) rfl rfl rfl (byP (drZ zs) tI) (byP (drZ zs) tI) (byP (drZ zs) tI) ?_
 by_cases hn:n<2
 ·refine rG (fc (drZ zs) (fc hn (fc ntmps273 results273))) ?_
  refine KX (drZ zs) (hO 2 (by decide) (by decide) i hi h) ?_
  rintro ⟨b,i1,h1⟩ hi1
  have hi1':i1≤zs.length:=hi1
  cases b
  ·refine rG (fc (drZ zs) (fc ntmps273 results273)) ?_
   refine KX (drZ zs) (hO 3 (by decide) (by decide) i1 hi1' h1) ?_
   rintro ⟨b2,i2,h2⟩ hi2
   have hi2':i2≤zs.length:=hi2
   cases b2
   ·refine rG (fc (drZ zs) (fc ntmps273 results273)) ?_
    refine ⟨.inl rfl,(gI,i2,h2),⟨by assumption,hi2'⟩, ?_⟩
    refine byP (fc (drZ zs) (fc ntmps273 results273)) ?_
    exact Fi
   ·refine rG (fc (drZ zs) (fc ntmps273 results273)) ?_
    refine Bo (hF) rfl rfl rfl (byP (drZ zs) tI) (byP (drZ zs) tI) (byP (drZ zs) tI) ?_
    refine rG (fc (drZ zs) (fc ntmps273 results273)) ?_
    refine ⟨.inl rfl,(.mk 3 [gI,gI],i2,h2),⟨by assumption,hi2'⟩, ?_⟩
    refine byP (fc (drZ zs) (fc ntmps273 results273)) ?_
    exact Fi
  ·refine rG (fc (drZ zs) (fc ntmps273 results273)) ?_
   refine Bo (hC) rfl rfl rfl (byP (drZ zs) tI) (byP (drZ zs) tI) (byP (drZ zs) tI) ?_
   refine rG (fc (drZ zs) (fc ntmps273 results273)) ?_
   refine ⟨.inl rfl,(gC gI,i1,h1),⟨by assumption,hi1'⟩, ?_⟩
   refine byP (fc (drZ zs) (fc ntmps273 results273)) ?_
   exact Fi
 ·refine rG (fc (drZ zs) (fc hn (fc ntmps273 results273))) ?_
  refine KX (drZ zs) (hO 3 (by decide) (by decide) i hi h) ?_
  rintro ⟨b2,i2,h2⟩ hi2
  have hi2':i2≤zs.length:=hi2
  cases b2
  ·refine rG (fc (drZ zs) (fc ntmps273 results273)) ?_
   refine ⟨.inl rfl,(gI,i2,h2),⟨by assumption,hi2'⟩, ?_⟩
   refine byP (fc (drZ zs) (fc ntmps273 results273)) ?_
   exact Fi
  ·refine rG (fc (drZ zs) (fc ntmps273 results273)) ?_
   refine Bo (hF) rfl rfl rfl (byP (drZ zs) tI) (byP (drZ zs) tI) (byP (drZ zs) tI) ?_
   refine rG (fc (drZ zs) (fc ntmps273 results273)) ?_
   refine ⟨.inl rfl,(.mk 3 [gI,gI],i2,h2),⟨by assumption,hi2'⟩, ?_⟩
   refine byP (fc (drZ zs) (fc ntmps273 results273)) ?_
   exact Fi
end Go.Proofs.YtaidalilfmjfgaaGreat
