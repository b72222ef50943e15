import Derived.Test.YtaidalilfmjfgaaGreatAI12
namespace Go.Proofs.YtaidalilfmjfgaaGreat
open Go.RowKit
set_option linter.unusedVariables false
set_option linter.unusedSimpArgs false
abbrev PV:=Prop × AV
def bad:PV:=(False,.un)
def vSub (l:List AV) (off:Nat):Option Nat→PV
 | none=>((l[off]?).isSome=true,(l[off]?).getD .un)
 | some n=>(off+n≤l.length,.ag ((l.drop off).take n))
theorem vSub_x {l : List AV} {off : Nat} {m : Option Nat} {k : AV → Prop} (h : (vSub l off m).1) (hk : k (vSub l off m).2) : xSub l off m k := by
  cases m with
  | none =>
    simp only [vSub, xSub] at h hk ⊢
    obtain ⟨v, hv⟩ := Option.isSome_iff_exists.1 h
    rw [hv] at hk ⊢
    exact hk
  | some n => exact ⟨h, hk⟩
def vLoad (P : Program) (s : AS) (T : TypeId) (x : AV) : PV :=
  match tAgg P T, x with
  | some m, .bx b off => match look s.bx b with
    | some cs => vSub cs off m
    | none => bad
  | some m, .eb d kk off => vSub ((rowD d kk).map avB) off m
  | some m, .eo o kk off => match s.owf o with
    | some I => vSub ((rowD I.d kk).map (avF o I.ap I.deep)) off m
    | none => bad
  | some m, .rp cs => vSub cs 0 m
  | _, _ => bad
theorem vLoad_x {P : Program} {s : AS} {T : TypeId} {x : AV} {k : AV → Prop} (h : (vLoad P s T x).1) (hk : k (vLoad P s T x).2) : xLoad P s T x k := by
  unfold vLoad at h hk
  unfold xLoad
  cases ht : tAgg P T with
  | none => rw [ht] at h; exact h.elim
  | some m =>
    rw [ht] at h hk
    cases x <;> simp only at h hk ⊢ <;> first | exact h.elim | skip
    case bx b off =>
      cases hl : look s.bx b with
      | none => rw [hl] at h; exact h.elim
      | some cs => rw [hl] at h hk; exact vSub_x h hk
    case eb d kk off => exact vSub_x h hk
    case rp cs => exact vSub_x h hk
    case eo o kk off =>
      cases hl : s.owf o with
      | none => rw [hl] at h; exact h.elim
      | some I => rw [hl] at h hk; exact vSub_x h hk
def vFld (P:Program) (s:AS) (T:TypeId) (f:Nat) (x:AV):PV :=
 match tFld P T f,x with
 | some (o,sz),.bx b off=>(sz≠0,.bx b (off+o))
 | some (o,sz),.eb d kk off=>(sz≠0,.eb d kk (off+o))
 | some (o,sz),.eo ow kk off=>(sz≠0∧(s.owf ow).isSome=true,.eo ow kk (off+o))
 | _,_=>bad
theorem vFld_x {P : Program} {s : AS} {T : TypeId} {f : Nat} {x : AV} {k : AV → Prop} (h : (vFld P s T f x).1) (hk : k (vFld P s T f x).2) : xFld P s T f x k := by
  unfold vFld at h hk
  unfold xFld
  cases ht : tFld P T f with
  | none => rw [ht] at h; exact h.elim
  | some q =>
    obtain ⟨o, sz⟩ := q
    rw [ht] at h hk
    cases x <;> simp only at h hk ⊢ <;> first | exact h.elim | exact ⟨h, hk⟩ | skip
    case eo ow kk off =>
      obtain ⟨I, hI⟩ := Option.isSome_iff_exists.1 h.2
      rw [hI]
      exact ⟨h.1, hk⟩
def vIdx (P : Program) (s : AS) (T : TypeId) (x i : AV) : PV :=
  match tElem P T, i, x with
  | some (_, esz), .i j, .br (.rows sz n cs) => (sz = esz ∧ 0 ≤ j ∧ j < n, .eb (.rows sz n cs) j.toNat 0)
  | some (_, esz), .i j, .sl o => match s.owf o with
    | some ⟨.rows sz n cs, _, _⟩ => (sz = esz ∧ 0 ≤ j ∧ j < n, .eo o j.toNat 0)
    | _ => bad
  | _, _, _ => bad
theorem vIdx_x {P:Program} {s:AS} {T:TypeId} {x i:AV} {k:AV→Prop} (h:(vIdx P s T x i).1) (hk:k (vIdx P s T x i).2):xIdx P s T x i k:=by
 unfold vIdx at h hk
 unfold xIdx
 split at h
 ·rename_i e1;rw [e1] at hk ⊢; simp only at hk ⊢; exact ⟨h.1,h.2,hk⟩
 ·rename_i e1
  split at h
  ·rename_i e2;rw [e1] at hk ⊢; simp only at hk ⊢; rw [e2] at hk ⊢; simp only at hk ⊢; exact ⟨h.1,h.2,hk⟩
  ·exact h.elim
 ·exact h.elim
def vBin (op : BinOp) : AV → AV → PV
  | .i x, .i y => match op with
    | .add => (inI (x + y), .i (x + y))
    | .sub => (inI (x - y), .i (x - y))
    | .mul => (inI (x * y), .i (x * y))
    | .quo => (y ≠ 0 ∧ inI (x.tdiv y), .i (x.tdiv y))
    | .rem => (y ≠ 0, .i (x.tmod y))
    | .and => (True, .i (andI x y))
    | .xor => (True, .i (xorI x y))
    | .eql => (True, .b (decide (x = y)))
    | .neq => (True, .b (decide (x ≠ y)))
    | .lss => (True, .b (decide (x < y)))
    | .leq => (True, .b (decide (x ≤ y)))
    | .gtr => (True, .b (decide (y < x)))
    | .geq => (True, .b (decide (y ≤ x)))
    | _ => bad
  | .y x, .y y => match op with
    | .eql => (True, .b (decide (x = y)))
    | .neq => (True, .b (decide (x ≠ y)))
    | .lss => (True, .b (decide (x < y)))
    | .leq => (True, .b (decide (x ≤ y)))
    | .gtr => (True, .b (decide (y < x)))
    | .geq => (True, .b (decide (y ≤ x)))
    | .sub => (0 ≤ x - y ∧ x - y < 256, .y (x - y))
    | _ => bad
  | .s x, .s y => match op with
    | .add => (x.size + y.size ≤ maxLen, .s (x ++ y))
    | .eql => (True, .b (decide (x = y)))
    | .neq => (True, .b (decide (x ≠ y)))
    | .lss => (True, .b (Op.bytesLess x.toList y.toList))
    | .leq => (True, .b (Op.bytesLess x.toList y.toList || decide (x = y)))
    | .gtr => (True, .b (!(Op.bytesLess x.toList y.toList || decide (x = y))))
    | .geq => (True, .b (!Op.bytesLess x.toList y.toList))
    | _ => bad
  | .i x, .x (.int _ y) => match op with
    | .shr => (0 ≤ y, .i (x.fdiv (2 ^ min y.toNat IntKind.i64.bits)))
    | _ => bad
  | _, _ => bad
theorem vBin_x {op:BinOp} {x y:AV} {k:AV→Prop} (h:(vBin op x y).1) (hk:k (vBin op x y).2):xBin op x y k:=by
 cases x <;> cases y <;> first | exact h.elim | skip
 case i.x n v =>
  cases v <;> first | exact h.elim | skip
  cases op <;> first | exact h.elim | exact ⟨h,hk⟩
 all_goals (cases op <;> first | exact h.elim | exact hk | exact ⟨h,hk⟩ | exact ⟨h.1,h.2,hk⟩)
def vEqA (P:Program) (T:TypeId) (op:BinOp) (cs ds:List AV):PV:=match op with
 | .eql=>((tEq P T (cs.map shp)=true∧shpOk cs ds=true),.b (eqAVs cs ds))
 | .neq=>((tEq P T (cs.map shp)=true∧shpOk cs ds=true),.b (!eqAVs cs ds))
 | _=>bad
def vEqB (P:Program) (T:TypeId) (op:BinOp) (a b:Bool):PV:=match op with
 | .eql=>(tBoo P T=true,.b (decide (a=b)))
 | .neq=>(tBoo P T=true,.b (decide (a≠b)))
 | _=>bad
def vMax:AV→AV→PV
 | .i a,.i b=>(True,.i (if a<b then b else a))
 | _,_=>bad
theorem vMax_x {x y:AV} {k:AV→Prop} (h:(vMax x y).1) (hk:k (vMax x y).2):xMax x y k:=by
 cases x <;> cases y <;> first | exact h.elim | exact hk
def vBinT (P:Program) (T:TypeId) (op:BinOp) (x y:AV):PV:=if isAg x=true then (isAg y=true∧(vEqA P T op (cellsA x) (cellsA y)).1,(vEqA P T op (cellsA x) (cellsA y)).2) else if isBo x=true then (isBo y=true∧(vEqB P T op (bvA x) (bvA y)).1,(vEqB P T op (bvA x) (bvA y)).2) else vBin op x y
theorem vBinT_x {P:Program} {T:TypeId} {op:BinOp} {x y:AV} {k:AV→Prop} (h:(vBinT P T op x y).1) (hk:k (vBinT P T op x y).2):xBinT P T op x y k:=by
 unfold vBinT at h hk
 unfold xBinT
 split at h
 ·rename_i e
  rw [if_pos e] at hk ⊢
  refine ⟨h.1, ?_⟩
  obtain ⟨_,h2⟩:=h
  cases op <;> first | exact h2.elim | exact ⟨h2,hk⟩
 ·rename_i e
  rw [if_neg e] at hk ⊢
  split at h
  ·rename_i e2
   rw [if_pos e2] at hk ⊢
   refine ⟨h.1, ?_⟩
   obtain ⟨_,h2⟩:=h
   cases op <;> first | exact h2.elim | exact ⟨h2,hk⟩
  ·rename_i e2
   rw [if_neg e2] at hk ⊢
   exact vBin_x h hk
def vNot (op:UnOp):AV→PV
 | .b x=>match op with | .not=>(True,.b (!x)) | _=>bad
 | .i x=>match op with | .neg=>(inI (0-x),.i (0-x)) | _=>bad
 | _=>bad
theorem vNot_x {op:UnOp} {x:AV} {k:AV→Prop} (h:(vNot op x).1) (hk:k (vNot op x).2):xNot op x k:=by
 cases x <;> first | exact h.elim | skip
 all_goals (cases op <;> first | exact h.elim | exact hk | exact ⟨h,hk⟩)
def vLen (P : Program) (s : AS) (T : TypeId) (x : AV) : PV :=
  match x with
  | .s t => (tKind P T = 1, .i t.size)
  | _ => match s.rd x with
    | some (.rows _ n _) => (tKind P T = 2, .i n)
    | _ => bad
theorem vLen_x {P:Program} {s:AS} {T:TypeId} {x:AV} {k:AV→Prop} (h:(vLen P s T x).1) (hk:k (vLen P s T x).2):xLen P s T x k:=by
 unfold vLen at h hk
 unfold xLen
 split at h
 ·exact ⟨h,hk⟩
 ·split at h
  ·rename_i e;simp only at hk ⊢; rw [e] at hk ⊢; exact ⟨h,hk⟩
  ·exact h.elim
def vChr (P:Program) (T:TypeId):AV→AV→PV
 | .s x,.i j=>(tKind P T=1∧0≤j∧j<x.size,.y ((x.data.getD j.toNat 0).toNat))
 | _,_=>bad
theorem vChr_x {P:Program} {T:TypeId} {x y:AV} {k:AV→Prop} (h:(vChr P T x y).1) (hk:k (vChr P T x y).2):xChr P T x y k:=by
 cases x <;> cases y <;> first | exact h.elim | exact ⟨h.1,h.2,hk⟩
def vExt:AV→Nat→PV
 | .tu vs,i=>((vs[i]?).isSome=true,(vs[i]?).getD .un)
 | _,_=>bad
theorem vExt_x {x:AV} {i:Nat} {k:AV→Prop} (h:(vExt x i).1) (hk:k (vExt x i).2):xExt x i k:=by
 cases x <;> first | exact h.elim | skip
 rename_i vs
 simp only [vExt] at h hk
 obtain ⟨v,hv⟩:=Option.isSome_iff_exists.1 h
 rw [hv] at hk
 simp only [xExt,hv]
 exact hk
def vBuild (P:Program) (t:TypeId) (ps:List (Nat × AV)):PV :=
 match tBuild P t with
 | some (pl,z)=>((xFill (pl[·]?) z ps).isSome=true,.ag ((xFill (pl[·]?) z ps).getD []))
 | none=>bad
theorem vBuild_x {P:Program} {t:TypeId} {ps:List (Nat × AV)} {k:AV→Prop} (h:(vBuild P t ps).1) (hk:k (vBuild P t ps).2):xBuild P t ps k:=by
 unfold vBuild at h hk
 unfold xBuild
 split at h
 ·rename_i pl z e
  rw [e] at hk ⊢
  simp only at h hk ⊢
  obtain ⟨v,hv⟩:=Option.isSome_iff_exists.1 h
  rw [hv] at hk ⊢
  exact hk
 ·exact h.elim
def vCut (l h:Option Int) (n:Nat):Prop × Nat × Nat :=
 match l,h with
 | some l,some h=>(0≤l∧l≤h∧h≤n,l.toNat,h.toNat)
 | _,_=>(False,0,0)
def vSlc (P : Program) (s : AS) (T : TypeId) (x : AV) (lo hi mx : Option AV) : PV :=
  match mx, x with
  | none, .s t => (tKind P T = 1 ∧ (vCut (ixL lo) (ixH t.size hi) t.size).1, .s (t.extract (vCut (ixL lo) (ixH t.size hi) t.size).2.1 (vCut (ixL lo) (ixH t.size hi) t.size).2.2))
  | none, .br (.rows sz n cs) => (((tElem P T).map (·.2) = some sz) ∧ (vCut (ixL lo) (ixH n hi) n).1, .br (cutD (.rows sz n cs) (vCut (ixL lo) (ixH n hi) n).2.1 (vCut (ixL lo) (ixH n hi) n).2.2))
  | none, .sl o => match s.owf o with
    | some ⟨.rows sz n cs, _, _⟩ => (((tElem P T).map (·.2) = some sz) ∧ (vCut (ixL lo) (ixH n hi) n).1, .sp o (cutD (.rows sz n cs) (vCut (ixL lo) (ixH n hi) n).2.1 (vCut (ixL lo) (ixH n hi) n).2.2))
    | _ => bad
  | none, .sp o (.rows sz n cs) => ((s.owf o).isSome = true ∧ ((tElem P T).map (·.2) = some sz) ∧ (vCut (ixL lo) (ixH n hi) n).1, .sp o (cutD (.rows sz n cs) (vCut (ixL lo) (ixH n hi) n).2.1 (vCut (ixL lo) (ixH n hi) n).2.2))
  | some (.i m), .br (.rows sz n cs) => ((((tElem P T).map (·.2) = some sz) ∧ hi.bind iOf = some m) ∧ (vCut (ixL lo) (some m) n).1, .cl (cutD (.rows sz n cs) (vCut (ixL lo) (some m) n).2.1 (vCut (ixL lo) (some m) n).2.2))
  | _, _ => bad
theorem vCut_x {l h:Option Int} {n:Nat} (e:(vCut l h n).1):∃ a b,l=some a∧h=some b∧(0≤a∧a≤b∧b≤n)∧vCut l h n=(0≤a∧a≤b∧b≤n,a.toNat,b.toNat):=by
 cases l <;> cases h <;> first | exact e.elim | exact ⟨_,_,rfl,rfl,e,rfl⟩
theorem elem_x {P:Program} {T:TypeId} {sz:Nat} (h:(tElem P T).map (·.2)=some sz):∃ e,tElem P T=some (e,sz):=by
 cases ht:tElem P T with
 | none=>rw [ht] at h;cases h
 | some q=>obtain ⟨a,b⟩:=q;rw [ht] at h;injection h with h;simp only at h;exact ⟨a,by rw [h]⟩
theorem vSlc_x {P:Program} {s:AS} {T:TypeId} {x:AV} {lo hi mx:Option AV} {k:AV→Prop} (h:(vSlc P s T x lo hi mx).1) (hk:k (vSlc P s T x lo hi mx).2):xSlc P s T x lo hi mx k:=by
 unfold vSlc at h hk
 unfold xSlc
 split at h
 ·obtain ⟨a,b,e1,e2,e3,e4⟩:=vCut_x h.2
  simp only at hk ⊢; rw [e1,e2];rw [e4] at hk;exact ⟨h.1,e3,hk⟩
 ·obtain ⟨a,b,e1,e2,e3,e4⟩:=vCut_x h.2
  obtain ⟨e,he⟩:=elem_x h.1
  simp only at hk ⊢; rw [e1,e2,he];rw [e4] at hk;exact ⟨rfl,e3,hk⟩
 ·split at h
  ·rename_i hI
   obtain ⟨a,b,e1,e2,e3,e4⟩:=vCut_x h.2
   obtain ⟨e,he⟩:=elem_x h.1
   simp only at hk ⊢; rw [hI] at hk ⊢; simp only at hk ⊢; rw [e1,e2,he];rw [e4] at hk;exact ⟨rfl,e3,hk⟩
  ·exact h.elim
 ·obtain ⟨h0,h1,h2⟩:=h
  obtain ⟨a,b,e1,e2,e3,e4⟩:=vCut_x h2
  obtain ⟨e,he⟩:=elem_x h1
  obtain ⟨I,hI⟩:=Option.isSome_iff_exists.1 h0
  simp only at hk ⊢; rw [hI,e1,e2,he];rw [e4] at hk;exact ⟨rfl,e3,hk⟩
 ·obtain ⟨⟨h1,h2⟩,h3⟩:=h
  obtain ⟨a,b,e1,e2,e3,e4⟩:=vCut_x h3
  obtain ⟨e,he⟩:=elem_x h1
  injection e2 with e2;subst e2
  simp only at hk ⊢; rw [e1,he];rw [e4] at hk;exact ⟨rfl,h2,e3,hk⟩
 ·exact h.elim
def vCnv (P:Program) (src dst:TypeId) (x:AV):PV :=
 match x with
 | .y n=>(tKind P dst=3∧(P.underlying src).isSome=true∧inI n,.i n)
 | .i n=>if tKind P dst=4 then ((P.underlying src).isSome=true∧0≤n∧n<256,.y n) else (tKind P dst=3∧(P.underlying src).isSome=true∧inI n,.i n)
 | _=>bad
theorem vCnv_x {P:Program} {a b:TypeId} {x:AV} {k:AV→Prop} (h:(vCnv P a b x).1) (hk:k (vCnv P a b x).2):xCnv P a b x k:=by
 cases x <;> first | exact h.elim | skip
 ·simp only [vCnv] at h hk
  split at h
  ·rename_i e;rw [if_pos e] at hk
   obtain ⟨d,hd⟩:=Option.isSome_iff_exists.1 h.1
   exact .inl ⟨e,⟨d,hd⟩,h.2,hk⟩
  ·rename_i e;rw [if_neg e] at hk
   obtain ⟨d,hd⟩:=Option.isSome_iff_exists.1 h.2.1
   exact .inr ⟨h.1,⟨d,hd⟩,h.2.2,hk⟩
 ·obtain ⟨d,hd⟩:=Option.isSome_iff_exists.1 h.2.1
  exact ⟨h.1,⟨d,hd⟩,h.2.2,hk⟩
def vP (P : Program) (s : AS) (op : Op) : PV :=
  match op with
  | .move x => (True, s.ev x)
  | .assign x => (True, s.ev x)
  | .load t x => vLoad P s t (s.ev x)
  | .binOp op T x y _ => vBinT P T op (s.ev x) (s.ev y)
  | .unOp op _ x => vNot op (s.ev x)
  | .fieldAddr t x f => vFld P s t f (s.ev x)
  | .indexAddr t x i => vIdx P s t (s.ev x) (s.ev i)
  | .index t x i => vChr P t (s.ev x) (s.ev i)
  | .extract x i => vExt (s.ev x) i
  | .build t ps => vBuild P t (ps.toList.map fun q => (q.1, s.ev q.2))
  | .makeFunc (.func f) first cap => (first.toList.length = 0, .fn f (cap.toList.map s.ev))
  | .slice t x lo hi mx => vSlc P s t (s.ev x) (lo.map s.ev) (hi.map s.ev) (mx.map s.ev)
  | .convert a b x => vCnv P a b (s.ev x)
  | .nilCheck x => match s.ev x with | .bx b o => (True, .bx b o) | _ => bad
  | .call ⟨.builtin .len, args, tys⟩ => match args.toList, tys.toList with
    | [x], [t] => vLen P s t (s.ev x)
    | _, _ => bad
  | .call ⟨.builtin .max, args, _⟩ => match args.toList with
    | [x, y] => vMax (s.ev x) (s.ev y)
    | _ => bad
  | _ => bad
theorem vP_x {P:Program} {s:AS} {op:Op} {k:AV→Prop} (h:(vP P s op).1) (hk:k (vP P s op).2):xP P s op k:=by
 unfold vP at h hk
 unfold xP
 split at h <;> simp only at hk ⊢
 ·exact hk
 ·exact hk
 ·exact vLoad_x h hk
 ·exact vBinT_x h hk
 ·exact vNot_x h hk
 ·exact vFld_x h hk
 ·exact vIdx_x h hk
 ·exact vChr_x h hk
 ·exact vExt_x h hk
 ·exact vBuild_x h hk
 ·exact ⟨h,hk⟩
 ·exact vSlc_x h hk
 ·exact vCnv_x h hk
 ·split at h
  ·rename_i e;rw [e] at hk ⊢; exact hk
  ·exact h.elim
 ·split at h
  ·rename_i e1 e2;rw [e1,e2] at hk ⊢; exact vLen_x h hk
  ·exact h.elim
 ·split at h
  ·rename_i e1;rw [e1] at hk ⊢; exact vMax_x h hk
  ·exact h.elim
 ·exact h.elim
def vRow (P : Program) (s : AS) (t : TypeId) (n : Nat) (ps : List (Nat × AV)) : PV × AS :=
  match tElem P t with
  | some (e, sz) => match xFill (fun i => some (i * sz, sz)) (List.replicate (n * sz) .un) ps with
    | some cs => (((cDs s cs).isSome = true ∧ (n ≤ 1000000 ∧ n * sz ≤ 16777216 ∧ (n = 0 ∨ (tZero P e).isSome = true) ∧ (eatsOf cs).Nodup), .sl s.nx), s.mk' (eatsOf cs) ⟨.rows sz n ((cDs s cs).getD []), some e, cs.all (dpOf s)⟩)
    | none => (bad, s)
  | none => (bad, s)
theorem vRow_x {P:Program} {s:AS} {t:TypeId} {n:Nat} {ps:List (Nat × AV)} {K:AV→AS→Prop} (h:(vRow P s t n ps).1.1) (hk:K (vRow P s t n ps).1.2 (vRow P s t n ps).2):xRow P s t n ps K:=by
 unfold vRow at h hk
 unfold xRow
 split at h
 ·rename_i e sz e1
  rw [e1] at hk ⊢
  simp only at h hk ⊢
  split at h
  ·rename_i cs e2
   rw [e2] at hk ⊢
   simp only at h hk ⊢
   obtain ⟨ds,hds⟩:=Option.isSome_iff_exists.1 h.1
   rw [hds] at hk ⊢
   exact ⟨h.2,hk⟩
  ·exact h.elim
 ·exact h.elim
def vStE (P : Program) (s : AS) (t : TypeId) (o k off : Nat) (ds : Option (List D)) : Option OwnI → PV × AS
  | some ⟨.rows sz n cs, some T, dp⟩ => match ds with
    | some ds => ((tSize P t = some ds.length ∧ off + ds.length ≤ sz, .un), s.setO o ⟨.rows sz n (setRowG cs (k * sz + off) ds), some T, dp⟩)
    | none => (bad, s)
  | _ => (bad, s)
theorem vStE_x {P : Program} {s : AS} {t : TypeId} {o k off : Nat} {y : AV} {K : AS → Prop} (h : (vStE P s t o k off (stDs y.cells (s.owf o)) (s.owf o)).1.1) (hk : K (vStE P s t o k off (stDs y.cells (s.owf o)) (s.owf o)).2) : xStore P s t (.eo o k off) y K := by
  unfold xStore
  simp only
  cases ho : s.owf o with
  | none => rw [ho] at h; exact h.elim
  | some I =>
    rw [ho] at h hk
    obtain ⟨d, ap, dp⟩ := I
    cases d <;> first | exact h.elim | skip
    cases ap <;> first | exact h.elim | skip
    rename_i T sz n cs
    cases hd : stDs y.cells (some ⟨.rows T sz n, some cs, dp⟩) with
    | none => rw [hd] at h; exact h.elim
    | some ds =>
      rw [hd] at h hk
      simp only [vStE] at h hk
      simp only [h.1]
      exact ⟨⟨trivial, h.2⟩, hk⟩
def vStore (P : Program) (s : AS) (t : TypeId) (x y : AV) : PV × AS :=
  match x with
  | .eo o k off => vStE P s t o k off (stDs y.cells (s.owf o)) (s.owf o)
  | .bx b off => match look s.bx b with
    | some cs => ((tSize P t = some y.cells.length ∧ y.whole = true ∧ off + y.cells.length ≤ cs.length, .un), s.setb b (setRowG cs off y.cells))
    | none => (bad, s)
  | _ => (bad, s)
theorem vStore_x {P:Program} {s:AS} {t:TypeId} {x y:AV} {K:AS→Prop} (h:(vStore P s t x y).1.1) (hk:K (vStore P s t x y).2):xStore P s t x y K:=by
 unfold vStore at h hk
 split at h
 ·exact vStE_x h hk
 ·unfold xStore
  simp only at hk ⊢
  split at h
  ·rename_i e;rw [e] at hk ⊢
   simp only at h hk ⊢
   rw [h.1]
   exact ⟨⟨h.2.1,rfl,h.2.2⟩,hk⟩
  ·exact h.elim
 ·exact h.elim
def vApp (P : Program) (s : AS) (t : TypeId) (x y : AV) : PV × AS :=
  match tRow P t with
  | some (T, sz, bytes) => match appL s T sz x, appR s sz (tSh P t) y with
    | some (e1, n, cs, dp), some (e2, m, ds, dp') => (((apC (isCl x) n m ∧ apP (tSh P t) e2 ds) ∧ (∀ o ∈ e1, o ∉ e2) ∧ (n + m ≤ maxLen ∧ (n + m) * bytes ≤ 140737488355328), .sl s.nx), s.mk' (e1 ++ e2) ⟨.rows sz (n + m) (cs ++ ds), some T, dp && dp'⟩)
    | _, _ => (bad, s)
  | none => (bad, s)
theorem vApp_x {P:Program} {s:AS} {t:TypeId} {x y:AV} {K:AV→AS→Prop} (h:(vApp P s t x y).1.1) (hk:K (vApp P s t x y).1.2 (vApp P s t x y).2):xApp P s t x y K:=by
 unfold vApp at h hk
 unfold xApp
 split at h
 ·rename_i e1
  rw [e1] at hk ⊢
  simp only at h hk ⊢
  split at h
  ·rename_i e2 e3
   rw [e2,e3] at hk ⊢
   exact ⟨h.1,h.2.1,h.2.2,hk⟩
  ·exact h.elim
 ·exact h.elim
def vMake (P : Program) (s : AS) (t : TypeId) (x y : AV) : PV × AS :=
  match tRow P t, x, y with
  | some (T, sz, bytes), .i n, .i m => match (tZero P T).bind primDs with
    | some ds => (((n = m ∧ (0 ≤ n ∧ n ≤ 1000000) ∧ bytes ≤ 1000), .sl s.nx), s.mk' [] ⟨.rows sz n.toNat (repD n.toNat ds), some T, true⟩)
    | none => (bad, s)
  | _, _, _ => (bad, s)
theorem vMake_x {P:Program} {s:AS} {t:TypeId} {x y:AV} {K:AV→AS→Prop} (h:(vMake P s t x y).1.1) (hk:K (vMake P s t x y).1.2 (vMake P s t x y).2):xMake P s t x y K:=by
 unfold vMake at h hk
 unfold xMake
 split at h
 ·rename_i e1
  rw [e1] at hk ⊢
  simp only at h hk ⊢
  split at h
  ·rename_i e2
   rw [e2] at hk ⊢
   exact ⟨h,hk⟩
  ·exact h.elim
 ·exact h.elim
def vE (P : Program) (s : AS) (op : Op) : PV × AS :=
  match op with
  | .alloc t => (((tZero P t).isSome = true, .bx s.nx 0), s.box ((tZero P t).getD []))
  | .box t x => (((s.ev x).whole = true, .bx s.nx 0), s.box (s.ev x).cells)
  | .buildSlice t n ps => vRow P s t n (ps.toList.map fun q => (q.1, s.ev q.2))
  | .store t x y => vStore P s t (s.ev x) (s.ev y)
  | .makeSlice t l c => vMake P s t (s.ev l) (s.ev c)
  | .call ⟨.builtin .append, args, tys⟩ => match args.toList, tys.toList with
    | [x, y], [t, t'] => if t' = t then vApp P s t (s.ev x) (s.ev y) else (bad, s)
    | _, _ => (bad, s)
  | .call ⟨.value _, _, _⟩ => (bad, s)
  | op => (vP P s op, s)
theorem vE_x {P : Program} {s : AS} {o : Oper} {K : AS → Prop} (h : (vE P s o.op).1.1) (hk : K ((vE P s o.op).2.pt o.dst (vE P s o.op).1.2)) : xO P s o K := by
  obtain ⟨dst, op, type, pos, after, guard⟩ := o
  simp only at h hk
  have key : ∀ op', vE P s op' = (vP P s op', s) → (vE P s op').1.1 → K ((vE P s op').2.pt dst (vE P s op').1.2) → xP P s op' fun av => K (s.pt dst av) := fun op' e h hk => by
    rw [e] at h hk
    exact vP_x h hk
  cases op with
  | alloc t =>
    simp only [vE] at h hk
    obtain ⟨zs, hz⟩ := Option.isSome_iff_exists.1 h
    rw [hz] at hk
    simp only [xO, hz]
    exact hk
  | box t x => exact ⟨h, hk⟩
  | makeSlice t l c =>
    simp only [vE] at h hk
    exact vMake_x (K := fun av s' => K (s'.pt dst av)) h hk
  | buildSlice t n ps =>
    simp only [vE] at h hk
    exact vRow_x (K := fun av s' => K (s'.pt dst av)) h hk
  | store t x y =>
    simp only [vE] at h hk
    have e : (vStore P s t (s.ev x) (s.ev y)).1.2 = .un := by
      unfold vStore
      split
      · unfold vStE
        split
        · split <;> rfl
        · rfl
      · split <;> rfl
      · rfl
    rw [e] at hk
    exact vStore_x (K := fun s' => K (s'.pt dst .un)) h hk
  | call c =>
    obtain ⟨callee, args, tys⟩ := c
    cases callee with
    | value f => simp only [vE] at h; exact h.elim
    | invoke r m => exact key _ rfl h hk
    | builtin b =>
      by_cases hb : b = .append
      · subst hb
        simp only [vE] at h hk
        simp only [xO]
        split at h
        · rename_i x y t t' e1 e2
          rw [e1, e2] at hk ⊢
          simp only at h hk ⊢
          split at h
          · rename_i e
            rw [if_pos e] at hk
            exact ⟨e, vApp_x (K := fun av s' => K (s'.pt dst av)) h hk⟩
          · exact h.elim
        · exact h.elim
      · have e : vE P s (.call ⟨.builtin b, args, tys⟩) = (vP P s (.call ⟨.builtin b, args, tys⟩), s) := by
          cases b <;> first | exact absurd rfl hb | rfl
        have := key _ e h hk
        cases b <;> first | exact absurd rfl hb | exact this
  | _ => exact key _ rfl h hk
attribute [push_cast] vE vP vSub vLoad vFld vIdx vBin vBinT vEqA vEqB vMax vNot vLen vChr vExt vBuild vCut vSlc vCnv vRow vStore vStE vApp vMake bad
end Go.Proofs.YtaidalilfmjfgaaGreat
