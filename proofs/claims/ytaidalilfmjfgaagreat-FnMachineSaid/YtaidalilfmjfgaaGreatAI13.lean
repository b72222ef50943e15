import Derived.Test.YtaidalilfmjfgaaGreatAI12
namespace Go.Proofs.YtaidalilfmjfgaaGreat
open Go.RowKit
set_option linter.unusedVariables false
set_option linter.unusedSimpArgs false
abbrev PV:=Prop × AV
def bad:PV:=(False,.un)
def JP (l:List AV) (off:Nat):Option Nat→PV
 | none=>((l[off]?).isSome=true,(l[off]?).getD .un)
 | some n=>(off+n≤l.length,.ag ((l.drop off).take n))
theorem ON {l:List AV} {off:Nat} {m:Option Nat} {k:AV→Prop} (h:(JP l off m).1) (hk:k (JP l off m).2):Ru l off m k:=by
 cases m with
 | none =>
  simp only [JP,Ru] at h hk ⊢
  obtain ⟨v,hv⟩:=Option.isSome_iff_exists.1 h
  rw [hv] at hk ⊢
  exact hk
 | some n=>exact ⟨h,hk⟩
def Fp (P:Program) (s:AS) (T:TypeId) (x:AV):PV :=
 match DN P T,x with
 | some m,.bx b off=>match AO s.bx b with
  | some cs=>JP cs off m
  | none=>bad
 | some m,.eb d kk off=>JP ((Hf d kk).map avB) off m
 | some m,.eo o kk off=>match s.owf o with
  | some I=>JP ((Hf I.d kk).map (avF o I.ap I.deep)) off m
  | none=>bad
 | some m,.rp cs=>JP cs 0 m
 | _,_=>bad
theorem Yz {P:Program} {s:AS} {T:TypeId} {x:AV} {k:AV→Prop} (h:(Fp P s T x).1) (hk:k (Fp P s T x).2):Qa P s T x k:=by
 unfold Fp at h hk
 unfold Qa
 cases ht:DN P T with
 | none=>rw [ht] at h;exact h.elim
 | some m =>
  rw [ht] at h hk
  cases x <;> simp only at h hk ⊢ <;> first | exact h.elim | skip
  case bx b off =>
   cases hl:AO s.bx b with
   | none=>rw [hl] at h;exact h.elim
   | some cs=>rw [hl] at h hk;exact ON h hk
  case eb d kk off=>exact ON h hk
  case rp cs=>exact ON h hk
  case eo o kk off =>
   cases hl:s.owf o with
   | none=>rw [hl] at h;exact h.elim
   | some I=>rw [hl] at h hk;exact ON h hk
def Mo (P:Program) (s:AS) (T:TypeId) (f:Nat) (x:AV):PV :=
 match Ce P T f,x with
 | some (o,sz),.bx b off=>(sz≠0,.bx b (off+o))
 | some (o,sz),.eb d kk off=>(sz≠0,.eb d kk (off+o))
 | some (o,sz),.eo ow kk off=>(sz≠0∧(s.owf ow).isSome=true,.eo ow kk (off+o))
 | _,_=>bad
theorem aCp {P:Program} {s:AS} {T:TypeId} {f:Nat} {x:AV} {k:AV→Prop} (h:(Mo P s T f x).1) (hk:k (Mo P s T f x).2):aB8 P s T f x k:=by
 unfold Mo at h hk
 unfold aB8
 cases ht:Ce P T f with
 | none=>rw [ht] at h;exact h.elim
 | some q =>
  obtain ⟨o,sz⟩:=q
  rw [ht] at h hk
  cases x <;> simp only at h hk ⊢ <;> first | exact h.elim | exact ⟨h,hk⟩ | skip
  case eo ow kk off =>
   obtain ⟨I,hI⟩:=Option.isSome_iff_exists.1 h.2
   rw [hI]
   exact ⟨h.1,hk⟩
def Mn (P:Program) (s:AS) (T:TypeId) (x i:AV):PV :=
 match BK P T,i,x with
 | some (_,esz),.i j,.br (.rows sz n cs)=>(sz=esz∧0≤j∧j<n,.eb (.rows sz n cs) j.toNat 0)
 | some (_,esz),.i j,.sl o=>match s.owf o with
  | some ⟨.rows sz n cs,_,_⟩=>(sz=esz∧0≤j∧j<n,.eo o j.toNat 0)
  | _=>bad
 | _,_,_=>bad
theorem aC8 {P:Program} {s:AS} {T:TypeId} {x i:AV} {k:AV→Prop} (h:(Mn P s T x i).1) (hk:k (Mn P s T x i).2):aA7 P s T x i k:=by
 unfold Mn at h hk
 unfold aA7
 split at h
 ·rename_i e1;rw [e1] at hk ⊢; simp only at hk ⊢; exact ⟨h.1,h.2,hk⟩
 ·rename_i e1
  split at h
  ·rename_i e2;rw [e1] at hk ⊢; simp only at hk ⊢; rw [e2] at hk ⊢; simp only at hk ⊢; exact ⟨h.1,h.2,hk⟩
  ·exact h.elim
 ·exact h.elim
def Qw (op:BinOp):AV→AV→PV
 | .i x,.i y=>match op with
  | .add=>(inI (x+y),.i (x+y))
  | .sub=>(inI (x-y),.i (x-y))
  | .mul=>(inI (x * y),.i (x * y))
  | .quo=>(y≠0∧inI (x.tdiv y),.i (x.tdiv y))
  | .rem=>(y≠0,.i (x.tmod y))
  | .and=>(True,.i (RA x y))
  | .xor=>(True,.i (aBb x y))
  | .eql=>(True,.b (decide (x=y)))
  | .neq=>(True,.b (decide (x≠y)))
  | .lss=>(True,.b (decide (x<y)))
  | .leq=>(True,.b (decide (x≤y)))
  | .gtr=>(True,.b (decide (y<x)))
  | .geq=>(True,.b (decide (y≤x)))
  | _=>bad
 | .y x,.y y=>match op with
  | .eql=>(True,.b (decide (x=y)))
  | .neq=>(True,.b (decide (x≠y)))
  | .lss=>(True,.b (decide (x<y)))
  | .leq=>(True,.b (decide (x≤y)))
  | .gtr=>(True,.b (decide (y<x)))
  | .geq=>(True,.b (decide (y≤x)))
  | .sub=>(0≤x-y∧x-y<256,.y (x-y))
  | _=>bad
 | .s x,.s y=>match op with
  | .add=>(x.size+y.size≤maxLen,.s (x++y))
  | .eql=>(True,.b (decide (x=y)))
  | .neq=>(True,.b (decide (x≠y)))
  | .lss=>(True,.b (Op.bytesLess x.toList y.toList))
  | .leq=>(True,.b (Op.bytesLess x.toList y.toList || decide (x=y)))
  | .gtr=>(True,.b (!(Op.bytesLess x.toList y.toList || decide (x=y))))
  | .geq=>(True,.b (!Op.bytesLess x.toList y.toList))
  | _=>bad
 | .i x,.x (.int _ y)=>match op with
  | .shr=>(0≤y,.i (x.fdiv (2 ^ min y.toNat IntKind.i64.bits)))
  | _=>bad
 | _,_=>bad
theorem aDj {op:BinOp} {x y:AV} {k:AV→Prop} (h:(Qw op x y).1) (hk:k (Qw op x y).2):aDo op x y k:=by
 cases x <;> cases y <;> first | exact h.elim | skip
 case i.x n v =>
  cases v <;> first | exact h.elim | skip
  cases op <;> first | exact h.elim | exact ⟨h,hk⟩
 all_goals (cases op <;> first | exact h.elim | exact hk | exact ⟨h,hk⟩ | exact ⟨h.1,h.2,hk⟩)
def aHI (P:Program) (T:TypeId) (op:BinOp) (cs ds:List AV):PV:=match op with
 | .eql=>((tEq P T (cs.map shp)=true∧JY cs ds=true),.b (LA cs ds))
 | .neq=>((tEq P T (cs.map shp)=true∧JY cs ds=true),.b (!LA cs ds))
 | _=>bad
def aGL (P:Program) (T:TypeId) (op:BinOp) (a b:Bool):PV:=match op with
 | .eql=>(aCG P T=true,.b (decide (a=b)))
 | .neq=>(aCG P T=true,.b (decide (a≠b)))
 | _=>bad
def aEx:AV→AV→PV
 | .i a,.i b=>(True,.i (if a<b then b else a))
 | _,_=>bad
theorem aBt {x y:AV} {k:AV→Prop} (h:(aEx x y).1) (hk:k (aEx x y).2):aEE x y k:=by
 cases x <;> cases y <;> first | exact h.elim | exact hk
def Gz (P:Program) (T:TypeId) (op:BinOp) (x y:AV):PV:=if Om x=true then (Om y=true∧(aHI P T op (Hi x) (Hi y)).1,(aHI P T op (Hi x) (Hi y)).2) else if OY x=true then (OY y=true∧(aGL P T op (bvA x) (bvA y)).1,(aGL P T op (bvA x) (bvA y)).2) else Qw op x y
theorem Yr {P:Program} {T:TypeId} {op:BinOp} {x y:AV} {k:AV→Prop} (h:(Gz P T op x y).1) (hk:k (Gz P T op x y).2):PP P T op x y k:=by
 unfold Gz at h hk
 unfold PP
 split at h
 ·rename_i e
  rw [if_pos e] at hk ⊢
  refine ⟨h.1, ?_⟩
  obtain ⟨_,h2⟩:=h
  cases op <;> first | exact h2.elim | exact ⟨h2,hk⟩
 ·rename_i e
  rw [if_neg e] at hk ⊢
  split at h
  ·rename_i e2
   rw [if_pos e2] at hk ⊢
   refine ⟨h.1, ?_⟩
   obtain ⟨_,h2⟩:=h
   cases op <;> first | exact h2.elim | exact ⟨h2,hk⟩
  ·rename_i e2
   rw [if_neg e2] at hk ⊢
   exact aDj h hk
def aEn (op:UnOp):AV→PV
 | .b x=>match op with | .not=>(True,.b (!x)) | _=>bad
 | .i x=>match op with | .neg=>(inI (0-x),.i (0-x)) | _=>bad
 | _=>bad
theorem aDD {op:UnOp} {x:AV} {k:AV→Prop} (h:(aEn op x).1) (hk:k (aEn op x).2):aE3 op x k:=by
 cases x <;> first | exact h.elim | skip
 all_goals (cases op <;> first | exact h.elim | exact hk | exact ⟨h,hk⟩)
def Xo (P:Program) (s:AS) (T:TypeId) (x:AV):PV :=
 match x with
 | .s t=>(BP P T=1,.i t.size)
 | _=>match s.rd x with
  | some (.rows _ n _)=>(BP P T=2,.i n)
  | _=>bad
theorem aCW {P:Program} {s:AS} {T:TypeId} {x:AV} {k:AV→Prop} (h:(Xo P s T x).1) (hk:k (Xo P s T x).2):aDe P s T x k:=by
 unfold Xo at h hk
 unfold aDe
 split at h
 ·exact ⟨h,hk⟩
 ·split at h
  ·rename_i e;simp only at hk ⊢; rw [e] at hk ⊢; exact ⟨h,hk⟩
  ·exact h.elim
def aFl (P:Program) (T:TypeId):AV→AV→PV
 | .s x,.i j=>(BP P T=1∧0≤j∧j<x.size,.y ((x.data.getD j.toNat 0).toNat))
 | _,_=>bad
theorem aCO {P:Program} {T:TypeId} {x y:AV} {k:AV→Prop} (h:(aFl P T x y).1) (hk:k (aFl P T x y).2):aEj P T x y k:=by
 cases x <;> cases y <;> first | exact h.elim | exact ⟨h.1,h.2,hk⟩
def aDq:AV→Nat→PV
 | .tu vs,i=>((vs[i]?).isSome=true,(vs[i]?).getD .un)
 | _,_=>bad
theorem aDO {x:AV} {i:Nat} {k:AV→Prop} (h:(aDq x i).1) (hk:k (aDq x i).2):aCB x i k:=by
 cases x <;> first | exact h.elim | skip
 rename_i vs
 simp only [aDq] at h hk
 obtain ⟨v,hv⟩:=Option.isSome_iff_exists.1 h
 rw [hv] at hk
 simp only [aCB,hv]
 exact hk
def LS (P:Program) (t:TypeId) (ps:List (Nat × AV)):PV :=
 match BS P t with
 | some (pl,z)=>((EE (pl[·]?) z ps).isSome=true,.ag ((EE (pl[·]?) z ps).getD []))
 | none=>bad
theorem UD {P:Program} {t:TypeId} {ps:List (Nat × AV)} {k:AV→Prop} (h:(LS P t ps).1) (hk:k (LS P t ps).2):Me P t ps k:=by
 unfold LS at h hk
 unfold Me
 split at h
 ·rename_i pl z e
  rw [e] at hk ⊢
  simp only at h hk ⊢
  obtain ⟨v,hv⟩:=Option.isSome_iff_exists.1 h
  rw [hv] at hk ⊢
  exact hk
 ·exact h.elim
def Jg (l h:Option Int) (n:Nat):Prop × Nat × Nat :=
 match l,h with
 | some l,some h=>(0≤l∧l≤h∧h≤n,l.toNat,h.toNat)
 | _,_=>(False,0,0)
def aDG (P:Program) (s:AS) (T:TypeId) (x:AV) (lo hi mx:Option AV):PV :=
 match mx,x with
 | none,.s t=>(BP P T=1∧(Jg (ixL lo) (ixH t.size hi) t.size).1,.s (t.extract (Jg (ixL lo) (ixH t.size hi) t.size).2.1 (Jg (ixL lo) (ixH t.size hi) t.size).2.2))
 | none,.br (.rows sz n cs)=>(((BK P T).map (·.2)=some sz)∧(Jg (ixL lo) (ixH n hi) n).1,.br (Hq (.rows sz n cs) (Jg (ixL lo) (ixH n hi) n).2.1 (Jg (ixL lo) (ixH n hi) n).2.2))
 | none,.sl o=>match s.owf o with
  | some ⟨.rows sz n cs,_,_⟩=>(((BK P T).map (·.2)=some sz)∧(Jg (ixL lo) (ixH n hi) n).1,.sp o (Hq (.rows sz n cs) (Jg (ixL lo) (ixH n hi) n).2.1 (Jg (ixL lo) (ixH n hi) n).2.2))
  | _=>bad
 | none,.sp o (.rows sz n cs)=>((s.owf o).isSome=true∧((BK P T).map (·.2)=some sz)∧(Jg (ixL lo) (ixH n hi) n).1,.sp o (Hq (.rows sz n cs) (Jg (ixL lo) (ixH n hi) n).2.1 (Jg (ixL lo) (ixH n hi) n).2.2))
 | some (.i m),.br (.rows sz n cs)=>((((BK P T).map (·.2)=some sz)∧hi.bind iOf=some m)∧(Jg (ixL lo) (some m) n).1,.cl (Hq (.rows sz n cs) (Jg (ixL lo) (some m) n).2.1 (Jg (ixL lo) (some m) n).2.2))
 | _,_=>bad
theorem JD {l h:Option Int} {n:Nat} (e:(Jg l h n).1):∃ a b,l=some a∧h=some b∧(0≤a∧a≤b∧b≤n)∧Jg l h n=(0≤a∧a≤b∧b≤n,a.toNat,b.toNat):=by
 cases l <;> cases h <;> first | exact e.elim | exact ⟨_,_,rfl,rfl,e,rfl⟩
theorem Lz {P:Program} {T:TypeId} {sz:Nat} (h:(BK P T).map (·.2)=some sz):∃ e,BK P T=some (e,sz):=by
 cases ht:BK P T with
 | none=>rw [ht] at h;cases h
 | some q=>obtain ⟨a,b⟩:=q;rw [ht] at h;injection h with h;simp only at h;exact ⟨a,by rw [h]⟩
theorem aBN {P:Program} {s:AS} {T:TypeId} {x:AV} {lo hi mx:Option AV} {k:AV→Prop} (h:(aDG P s T x lo hi mx).1) (hk:k (aDG P s T x lo hi mx).2):aDk P s T x lo hi mx k:=by
 unfold aDG at h hk
 unfold aDk
 split at h
 ·obtain ⟨a,b,e1,e2,e3,e4⟩:=JD h.2
  simp only at hk ⊢; rw [e1,e2];rw [e4] at hk;exact ⟨h.1,e3,hk⟩
 ·obtain ⟨a,b,e1,e2,e3,e4⟩:=JD h.2
  obtain ⟨e,he⟩:=Lz h.1
  simp only at hk ⊢; rw [e1,e2,he];rw [e4] at hk;exact ⟨rfl,e3,hk⟩
 ·split at h
  ·rename_i hI
   obtain ⟨a,b,e1,e2,e3,e4⟩:=JD h.2
   obtain ⟨e,he⟩:=Lz h.1
   simp only at hk ⊢; rw [hI] at hk ⊢; simp only at hk ⊢; rw [e1,e2,he];rw [e4] at hk;exact ⟨rfl,e3,hk⟩
  ·exact h.elim
 ·obtain ⟨h0,h1,h2⟩:=h
  obtain ⟨a,b,e1,e2,e3,e4⟩:=JD h2
  obtain ⟨e,he⟩:=Lz h1
  obtain ⟨I,hI⟩:=Option.isSome_iff_exists.1 h0
  simp only at hk ⊢; rw [hI,e1,e2,he];rw [e4] at hk;exact ⟨rfl,e3,hk⟩
 ·obtain ⟨⟨h1,h2⟩,h3⟩:=h
  obtain ⟨a,b,e1,e2,e3,e4⟩:=JD h3
  obtain ⟨e,he⟩:=Lz h1
  injection e2 with e2;subst e2
  simp only at hk ⊢; rw [e1,he];rw [e4] at hk;exact ⟨rfl,h2,e3,hk⟩
 ·exact h.elim
def aCN (P:Program) (src dst:TypeId) (x:AV):PV :=
 match x with
 | .y n=>(BP P dst=3∧(P.underlying src).isSome=true∧inI n,.i n)
 | .i n=>if BP P dst=4 then ((P.underlying src).isSome=true∧0≤n∧n<256,.y n) else (BP P dst=3∧(P.underlying src).isSome=true∧inI n,.i n)
 | _=>bad
theorem aDl {P:Program} {a b:TypeId} {x:AV} {k:AV→Prop} (h:(aCN P a b x).1) (hk:k (aCN P a b x).2):aEk P a b x k:=by
 cases x <;> first | exact h.elim | skip
 ·simp only [aCN] at h hk
  split at h
  ·rename_i e;rw [if_pos e] at hk
   obtain ⟨d,hd⟩:=Option.isSome_iff_exists.1 h.1
   exact .inl ⟨e,⟨d,hd⟩,h.2,hk⟩
  ·rename_i e;rw [if_neg e] at hk
   obtain ⟨d,hd⟩:=Option.isSome_iff_exists.1 h.2.1
   exact .inr ⟨h.1,⟨d,hd⟩,h.2.2,hk⟩
 ·obtain ⟨d,hd⟩:=Option.isSome_iff_exists.1 h.2.1
  exact ⟨h.1,⟨d,hd⟩,h.2.2,hk⟩
def vP (P:Program) (s:AS) (op:Op):PV :=
 match op with
 | .move x=>(True,s.ev x)
 | .assign x=>(True,s.ev x)
 | .load t x=>Fp P s t (s.ev x)
 | .binOp op T x y _=>Gz P T op (s.ev x) (s.ev y)
 | .unOp op _ x=>aEn op (s.ev x)
 | .fieldAddr t x f=>Mo P s t f (s.ev x)
 | .indexAddr t x i=>Mn P s t (s.ev x) (s.ev i)
 | .index t x i=>aFl P t (s.ev x) (s.ev i)
 | .extract x i=>aDq (s.ev x) i
 | .build t ps=>LS P t (ps.toList.map fun q=>(q.1,s.ev q.2))
 | .makeFunc (.func f) first cap=>(first.toList.length=0,.fn f (cap.toList.map s.ev))
 | .slice t x lo hi mx=>aDG P s t (s.ev x) (lo.map s.ev) (hi.map s.ev) (mx.map s.ev)
 | .convert a b x=>aCN P a b (s.ev x)
 | .nilCheck x=>match s.ev x with | .bx b o=>(True,.bx b o) | _=>bad
 | .call ⟨.builtin .len,args,tys⟩=>match args.toList,tys.toList with
  | [x],[t]=>Xo P s t (s.ev x)
  | _,_=>bad
 | .call ⟨.builtin .max,args,_⟩=>match args.toList with
  | [x,y]=>aEx (s.ev x) (s.ev y)
  | _=>bad
 | _=>bad
theorem aHS {P:Program} {s:AS} {op:Op} {k:AV→Prop} (h:(vP P s op).1) (hk:k (vP P s op).2):xP P s op k:=by
 unfold vP at h hk
 unfold xP
 split at h <;> simp only at hk ⊢
 ·exact hk
 ·exact hk
 ·exact Yz h hk
 ·exact Yr h hk
 ·exact aDD h hk
 ·exact aCp h hk
 ·exact aC8 h hk
 ·exact aCO h hk
 ·exact aDO h hk
 ·exact UD h hk
 ·exact ⟨h,hk⟩
 ·exact aBN h hk
 ·exact aDl h hk
 ·split at h
  ·rename_i e;rw [e] at hk ⊢; exact hk
  ·exact h.elim
 ·split at h
  ·rename_i e1 e2;rw [e1,e2] at hk ⊢; exact aCW h hk
  ·exact h.elim
 ·split at h
  ·rename_i e1;rw [e1] at hk ⊢; exact aBt h hk
  ·exact h.elim
 ·exact h.elim
def Uo (P:Program) (s:AS) (t:TypeId) (n:Nat) (ps:List (Nat × AV)):PV × AS :=
 match BK P t with
 | some (e,sz)=>match EE (fun i=>some (i * sz,sz)) (List.replicate (n * sz) .un) ps with
  | some cs=>(((cDs s cs).isSome=true∧(n≤1000000∧n * sz≤16777216∧(n=0∨(CE P e).isSome=true)∧(AB cs).Nodup),.sl s.nx),s.mk' (AB cs) ⟨.rows sz n ((cDs s cs).getD []),some e,cs.all (Qx s)⟩)
  | none=>(bad,s)
 | none=>(bad,s)
theorem aDE {P:Program} {s:AS} {t:TypeId} {n:Nat} {ps:List (Nat × AV)} {K:AV→AS→Prop} (h:(Uo P s t n ps).1.1) (hk:K (Uo P s t n ps).1.2 (Uo P s t n ps).2):aDM P s t n ps K:=by
 unfold Uo at h hk
 unfold aDM
 split at h
 ·rename_i e sz e1
  rw [e1] at hk ⊢
  simp only at h hk ⊢
  split at h
  ·rename_i cs e2
   rw [e2] at hk ⊢
   simp only at h hk ⊢
   obtain ⟨ds,hds⟩:=Option.isSome_iff_exists.1 h.1
   rw [hds] at hk ⊢
   exact ⟨h.2,hk⟩
  ·exact h.elim
 ·exact h.elim
def Qt (P:Program) (s:AS) (t:TypeId) (o k off:Nat) (ds:Option (List D)):Option Cb→PV × AS
 | some ⟨.rows sz n cs,some T,dp⟩=>match ds with
  | some ds=>((Ck P t=some ds.length∧off+ds.length≤sz,.un),s.setO o ⟨.rows sz n (Aw cs (k * sz+off) ds),some T,dp⟩)
  | none=>(bad,s)
 | _=>(bad,s)
theorem aDA {P:Program} {s:AS} {t:TypeId} {o k off:Nat} {y:AV} {K:AS→Prop} (h:(Qt P s t o k off (Qz y.cells (s.owf o)) (s.owf o)).1.1) (hk:K (Qt P s t o k off (Qz y.cells (s.owf o)) (s.owf o)).2):Ip P s t (.eo o k off) y K:=by
 unfold Ip
 simp only
 cases ho:s.owf o with
 | none=>rw [ho] at h;exact h.elim
 | some I =>
  rw [ho] at h hk
  obtain ⟨d,ap,dp⟩:=I
  cases d <;> first | exact h.elim | skip
  cases ap <;> first | exact h.elim | skip
  rename_i T sz n cs
  cases hd:Qz y.cells (some ⟨.rows T sz n,some cs,dp⟩) with
  | none=>rw [hd] at h;exact h.elim
  | some ds =>
   rw [hd] at h hk
   simp only [Qt] at h hk
   simp only [h.1]
   exact ⟨⟨trivial,h.2⟩,hk⟩
def Do (P:Program) (s:AS) (t:TypeId) (x y:AV):PV × AS :=
 match x with
 | .eo o k off=>Qt P s t o k off (Qz y.cells (s.owf o)) (s.owf o)
 | .bx b off=>match AO s.bx b with
  | some cs=>((Ck P t=some y.cells.length∧y.whole=true∧off+y.cells.length≤cs.length,.un),s.setb b (Aw cs off y.cells))
  | none=>(bad,s)
 | _=>(bad,s)
theorem WK {P:Program} {s:AS} {t:TypeId} {x y:AV} {K:AS→Prop} (h:(Do P s t x y).1.1) (hk:K (Do P s t x y).2):Ip P s t x y K:=by
 unfold Do at h hk
 split at h
 ·exact aDA h hk
 ·unfold Ip
  simp only at hk ⊢
  split at h
  ·rename_i e;rw [e] at hk ⊢
   simp only at h hk ⊢
   rw [h.1]
   exact ⟨⟨h.2.1,rfl,h.2.2⟩,hk⟩
  ·exact h.elim
 ·exact h.elim
def Us (P:Program) (s:AS) (t:TypeId) (x y:AV):PV × AS :=
 match Hs P t with
 | some (T,sz,bytes)=>match Up s T sz x,We s sz (tSh P t) y with
  | some (e1,n,cs,dp),some (e2,m,ds,dp')=>(((apC (QT x) n m∧apP (tSh P t) e2 ds)∧(∀ o ∈ e1,o ∉ e2)∧(n+m≤maxLen∧(n+m) * bytes≤140737488355328),.sl s.nx),s.mk' (e1++e2) ⟨.rows sz (n+m) (cs++ds),some T,dp && dp'⟩)
  | _,_=>(bad,s)
 | none=>(bad,s)
theorem aC9 {P:Program} {s:AS} {t:TypeId} {x y:AV} {K:AV→AS→Prop} (h:(Us P s t x y).1.1) (hk:K (Us P s t x y).1.2 (Us P s t x y).2):aDn P s t x y K:=by
 unfold Us at h hk
 unfold aDn
 split at h
 ·rename_i e1
  rw [e1] at hk ⊢
  simp only at h hk ⊢
  split at h
  ·rename_i e2 e3
   rw [e2,e3] at hk ⊢
   exact ⟨h.1,h.2.1,h.2.2,hk⟩
  ·exact h.elim
 ·exact h.elim
def PW (P:Program) (s:AS) (t:TypeId) (x y:AV):PV × AS :=
 match Hs P t,x,y with
 | some (T,sz,bytes),.i n,.i m=>match (CE P T).bind Ed with
  | some ds=>(((n=m∧(0≤n∧n≤1000000)∧bytes≤1000),.sl s.nx),s.mk' [] ⟨.rows sz n.toNat (TW n.toNat ds),some T,true⟩)
  | none=>(bad,s)
 | _,_,_=>(bad,s)
theorem Zt {P:Program} {s:AS} {t:TypeId} {x y:AV} {K:AV→AS→Prop} (h:(PW P s t x y).1.1) (hk:K (PW P s t x y).1.2 (PW P s t x y).2):Sr P s t x y K:=by
 unfold PW at h hk
 unfold Sr
 split at h
 ·rename_i e1
  rw [e1] at hk ⊢
  simp only at h hk ⊢
  split at h
  ·rename_i e2
   rw [e2] at hk ⊢
   exact ⟨h,hk⟩
  ·exact h.elim
 ·exact h.elim
def vE (P:Program) (s:AS) (op:Op):PV × AS :=
 match op with
 | .alloc t=>(((CE P t).isSome=true,.bx s.nx 0),s.box ((CE P t).getD []))
 | .box t x=>(((s.ev x).whole=true,.bx s.nx 0),s.box (s.ev x).cells)
 | .buildSlice t n ps=>Uo P s t n (ps.toList.map fun q=>(q.1,s.ev q.2))
 | .store t x y=>Do P s t (s.ev x) (s.ev y)
 | .makeSlice t l c=>PW P s t (s.ev l) (s.ev c)
 | .call ⟨.builtin .append,args,tys⟩=>match args.toList,tys.toList with
  | [x,y],[t,t']=>if t'=t then Us P s t (s.ev x) (s.ev y) else (bad,s)
  | _,_=>(bad,s)
 | .call ⟨.value _,_,_⟩=>(bad,s)
 | op=>(vP P s op,s)
theorem aGg {P:Program} {s:AS} {o:Oper} {K:AS→Prop} (h:(vE P s o.op).1.1) (hk:K ((vE P s o.op).2.pt o.dst (vE P s o.op).1.2)):xO P s o K:=by
 obtain ⟨dst,op,type,pos,after,guard⟩:=o
 simp only at h hk
 have key:∀ op',vE P s op'=(vP P s op',s)→(vE P s op').1.1→K ((vE P s op').2.pt dst (vE P s op').1.2)→xP P s op' fun av=>K (s.pt dst av):=fun op' e h hk=>by
  rw [e] at h hk
  exact aHS h hk
 cases op with
 | alloc t =>
  simp only [vE] at h hk
  obtain ⟨zs,hz⟩:=Option.isSome_iff_exists.1 h
  rw [hz] at hk
  simp only [xO,hz]
  exact hk
 | box t x=>exact ⟨h,hk⟩
 | makeSlice t l c =>
  simp only [vE] at h hk
  exact Zt (K:=fun av s'=>K (s'.pt dst av)) h hk
 | buildSlice t n ps =>
  simp only [vE] at h hk
  exact aDE (K:=fun av s'=>K (s'.pt dst av)) h hk
 | store t x y =>
  simp only [vE] at h hk
  have e:(Do P s t (s.ev x) (s.ev y)).1.2 = .un:=by
   unfold Do
   split
   ·unfold Qt
    split
    ·split <;> rfl
    ·rfl
   ·split <;> rfl
   ·rfl
  rw [e] at hk
  exact WK (K:=fun s'=>K (s'.pt dst .un)) h hk
 | call c =>
  obtain ⟨callee,args,tys⟩:=c
  cases callee with
  | value f=>simp only [vE] at h;exact h.elim
  | invoke r m=>exact key _ rfl h hk
  | builtin b =>
   by_cases hb:b = .append
   ·subst hb
    simp only [vE] at h hk
    simp only [xO]
    split at h
    ·rename_i x y t t' e1 e2
     rw [e1,e2] at hk ⊢
     simp only at h hk ⊢
     split at h
     ·rename_i e
      rw [if_pos e] at hk
      exact ⟨e,aC9 (K:=fun av s'=>K (s'.pt dst av)) h hk⟩
     ·exact h.elim
    ·exact h.elim
   ·have e:vE P s (.call ⟨.builtin b,args,tys⟩)=(vP P s (.call ⟨.builtin b,args,tys⟩),s):=by
     cases b <;> first | exact absurd rfl hb | rfl
    have:=key _ e h hk
    cases b <;> first | exact absurd rfl hb | exact this
 | _=>exact key _ rfl h hk
attribute [push_cast] vE vP JP Fp Mo Mn Qw Gz aHI aGL aEx aEn Xo aFl aDq LS Jg aDG aCN Uo Do Qt Us PW bad
end Go.Proofs.YtaidalilfmjfgaaGreat
