import Derived.Test.YtaidalilfmjfgaaGreatAIo
namespace Go.Proofs.YtaidalilfmjfgaaGreat
open Go.RowKit
set_option linter.unusedVariables false
set_option linter.unusedSimpArgs false
inductive It where
 | ops (all rest:List Oper)
 | ex (all:List Oper) (o:Oper) (rest:List Oper)
 | code (c:Code)
 | blk (id:Nat)
 | dr (all:List Oper) (ord:AN)
 | dx (all:List Oper) (o:Oper) (b:Bool) (r:AN)
 | dg (all:List Oper) (o:Oper) (b:Bool) (r:AN)
 | cut
abbrev QE:=Exit→AS→Prop
def Xk (P:Program) (all rest:List Oper) (s:AS) (Q:QE):Prop:=∀ w0 G a w,Rel w0 G s a w→wpList P all.toArray (Lft w0 Q) rest a w
def XEx (P:Program) (all:List Oper) (o:Oper) (rest:List Oper) (s:AS) (Q:QE):Prop:=∀ w0 G a w,Rel w0 G s a w→o.wp P a w (wpList P all.toArray (Lft w0 Q) rest) (Lft w0 Q)
def SW0 (w0:Aq):World→Prop:=fun w'=>Bel w0.wr w0.toWorld w'
def XDr (P:Program) (all:List Oper) (ord:AN) (s:AS) (Q:QE):Prop:=∀ w0 G a w,Rel w0 G s a w→Fm P all.toArray (SW0 w0) (Lft w0 Q) ord a w
def XDx (P:Program) (all:List Oper) (o:Oper) (b:Bool) (r:AN) (s:AS) (Q:QE):Prop:=∀ w0 G a w,Rel w0 G s a w→match b with
 | true=>∃ v,YieldsIf P all.toArray (Px o w) o v a∧Fm P all.toArray (SW0 w0) (Lft w0 Q) r (a.put o.dst v) w
 | false=>(Region.wanted o (yielded all.toArray a.tmps)=true→o.wp P a w (fun a' w'=>((Hc o=false→Below w.heap.size w w')∧SW0 w0 w')∧Fm P all.toArray (SW0 w0) (Lft w0 Q) r a' w') (Lft w0 Q))∧(Region.wanted o (yielded all.toArray a.tmps)=false→Fm P all.toArray (SW0 w0) (Lft w0 Q) r (a.put o.dst undef) w)
def XDg (P:Program) (all:List Oper) (o:Oper) (b:Bool) (r:AN) (s:AS) (Q:QE):Prop:=∀ w0 G a w,Rel w0 G s a w→match b with
 | true=>∃ v,(∀ w',Px o w w'→(execOp a.eval o).run P w' = .ok (.value v) w')∧Fm P all.toArray (SW0 w0) (Lft w0 Q) r (a.put o.dst v) w
 | false=>o.wp P a w (fun a' w'=>((Hc o=false→Below w.heap.size w w')∧SW0 w0 w')∧Fm P all.toArray (SW0 w0) (Lft w0 Q) r a' w') (Lft w0 Q)
def SXe:List (Nat × (AS→Prop))→QE→QE
 | [],Q,e,s=>Q e s
 | (i,r) :: b,Q,.exit id,s=>if id=i then r s else SXe b Q (.exit id) s
 | _ :: b,Q,e,s=>SXe b Q e s
def SX (k:AS→Prop) (b:List (Nat × (AS→Prop))) (Q:QE):QE:=fun e s=>match e with
 | .normal=>k s
 | e=>SXe b Q e s
def SWb (P:Program):List It→QE→(List (Nat × (AS→Prop))) × (AS→Prop)
 | [],Q=>([],fun s=>Q .normal s)
 | .code c :: st,Q=>((SWb P st Q).1,fun s=>XW P c s (SX (SWb P st Q).2 (SWb P st Q).1 Q))
 | .ops all rest :: st,Q=>((SWb P st Q).1,fun s=>Xk P all rest s (SX (SWb P st Q).2 (SWb P st Q).1 Q))
 | .ex all o rest :: st,Q=>((SWb P st Q).1,fun s=>XEx P all o rest s (SX (SWb P st Q).2 (SWb P st Q).1 Q))
 | .dr all ord :: st,Q=>((SWb P st Q).1,fun s=>XDr P all ord s (SX (SWb P st Q).2 (SWb P st Q).1 Q))
 | .dx all o b r :: st,Q=>((SWb P st Q).1,fun s=>XDx P all o b r s (SX (SWb P st Q).2 (SWb P st Q).1 Q))
 | .dg all o b r :: st,Q=>((SWb P st Q).1,fun s=>XDg P all o b r s (SX (SWb P st Q).2 (SWb P st Q).1 Q))
 | .cut :: st,Q=>((SWb P st Q).1,(SWb P st Q).2)
 | .blk i :: st,Q=>((i,(SWb P st Q).2) :: (SWb P st Q).1,(SWb P st Q).2)
def SW (P:Program) (st:List It) (s:AS) (Q:QE):Prop:=(SWb P st Q).2 s
def Eo (id:Nat):List It→Option (List It)
 | []=>none
 | .blk i :: st=>if id=i then some st else Eo id st
 | _ :: st=>Eo id st
theorem EA {P:Program} {Q:QE} {id:Nat} {s:AS}:∀ {st st':List It},Eo id st=some st'→SW P st' s Q→SXe (SWb P st Q).1 Q (.exit id) s
 | [],st',h,_=>by cases h
 | .code c :: st,st',h,hs=>EA (st:=st) h hs
 | .ops _ _ :: st,st',h,hs=>EA (st:=st) h hs
 | .ex _ _ _ :: st,st',h,hs=>EA (st:=st) h hs
 | .dr _ _ :: st,st',h,hs=>EA (st:=st) h hs
 | .dx _ _ _ _ :: st,st',h,hs=>EA (st:=st) h hs
 | .dg _ _ _ _ :: st,st',h,hs=>EA (st:=st) h hs
 | .cut :: st,st',h,hs=>EA (st:=st) h hs
 | .blk i :: st,st',h,hs=>by
  unfold Eo at h
  show if id=i then (SWb P st Q).2 s else SXe (SWb P st Q).1 Q (.exit id) s
  split at h
  ·rename_i e
   injection h with h
   subst h
   rw [if_pos e];exact hs
  ·rename_i e
   rw [if_neg e]
   exact EA (st:=st) h hs
theorem Gv {P:Program} {Q:QE} {id:Nat} {s:AS}:∀ {st:List It},Eo id st=none→Q (.exit id) s→SXe (SWb P st Q).1 Q (.exit id) s
 | [],h,hq=>hq
 | .code c :: st,h,hs=>Gv (st:=st) h hs
 | .ops _ _ :: st,h,hs=>Gv (st:=st) h hs
 | .ex _ _ _ :: st,h,hs=>Gv (st:=st) h hs
 | .dr _ _ :: st,h,hs=>Gv (st:=st) h hs
 | .dx _ _ _ _ :: st,h,hs=>Gv (st:=st) h hs
 | .dg _ _ _ _ :: st,h,hs=>Gv (st:=st) h hs
 | .cut :: st,h,hs=>Gv (st:=st) h hs
 | .blk i :: st,h,hs=>by
  unfold Eo at h
  show if id=i then (SWb P st Q).2 s else SXe (SWb P st Q).1 Q (.exit id) s
  split at h
  ·cases h
  ·rename_i e
   rw [if_neg e]
   exact Gv (st:=st) h hs
theorem Mg {Q:QE} {s:AS} (h:Q .ret s):∀ (b:List (Nat × (AS→Prop))),SXe b Q .ret s
 | []=>h
 | _ :: b=>Mg h b
theorem aCE {Q:QE} {e:Exit} {s:AS} (h:SX (fun s=>Q .normal s) [] Q e s):Q e s:=by
 cases e <;> exact h
theorem Dm {P:Program} {c:Code} {s:AS} {Q:QE} (h:SW P [.code c] s Q):XW P c s Q:=XW.mono h fun e s' h'=>aCE h'
def isB:AV→Bool | .b _=>true | _=>false
def bv:AV→Bool | .b x=>x | _=>false
def gT (all:List Oper) (o:Oper):Option Tmp:=match o.guard with | some (g,_)=>(all[g]?).bind (·.dst) | none=>none
def gW (o:Oper):Bool:=match o.guard with | some (_,w)=>w | none=>true
def gN (o:Oper):Bool:=match o.guard with | some _=>false | none=>true
def Cp:Op→Bool | .pick _ _ _=>true | _=>false
def pkC (s:AS):Op→AV | .pick c _ _=>s.ev c | _ => .un
def pkA (s:AS):Op→AV | .pick _ a _=>s.ev a | _ => .un
def pkB (s:AS):Op→AV | .pick _ _ b=>s.ev b | _ => .un
def Dd:Op→Bool | .call ⟨.value _,_,_⟩=>true | _=>false
def isU:AV→Bool | .tu []=>true | _=>false
def gV (all:List Oper) (o:Oper) (s:AS):AV:=(AO s.tm ((gT all o).getD 0)).getD .un
def Dx : Oper := ⟨none, .alloc 0, 0, "", #[], none⟩
def Eg (s:AS):Op→Bool
 | .slice _ x _ _ none=>match s.ev x with
  | .sl o=>match s.owf o with
   | some ⟨_,some _,_⟩=>true
   | _=>false
  | _=>false
 | .binOp _ _ x (.const (.slice none 0 0)) _=>match s.ev x with
  | .br _=>true
  | _=>false
 | _=>false
def Ct (P : Program) : Nat → List It → AS → QE → Prop
  | 0, _, _, _ => False
  | n + 1, [], s, Q => Q .normal s
  | n + 1, .blk _ :: st, s, Q => Ct P n st s Q
  | n + 1, .code .skip :: st, s, Q => Ct P n st s Q
  | n + 1, .code .ret :: st, s, Q => Q .ret s
  | n + 1, .code (.seq a b) :: st, s, Q => Ct P n (.code a :: .code b :: st) s Q
  | n + 1, .code (.cond c a b) :: st, s, Q => isB (s.ev c) = true ∧ (if bv (s.ev c) = true then Ct P n (.code a :: st) s Q else Ct P n (.code b :: st) s Q)
  | n + 1, .code (.block id c) :: st, s, Q => Ct P n (.code c :: .blk id :: st) s Q
  | n + 1, .code (.exit id) :: st, s, Q => if (Eo id st).isSome = true then Ct P n ((Eo id st).getD []) s Q else Q (.exit id) s
  | n + 1, .code (.loop c) :: st, s, Q => SW P (.code (.loop c) :: st) s Q
  | n + 1, .code (.region id ops d) :: st, s, Q => if d = true then SW P (.code (.region id ops true) :: st) s Q else Ct P n (.ops ops.toList ops.toList :: st) s Q
  | n + 1, .code _ :: st, s, Q => False
  | n + 1, .ops all [] :: st, s, Q => Ct P n st s Q
  | n + 1, .ops all (o :: rest) :: st, s, Q => if gN o = true then Ct P n (.ex all o rest :: st) s Q
      else if isU (gV all o s) = true then (gT all o).isSome = true ∧ Ct P n (.ops all rest :: st) (s.pt o.dst (.tu [])) Q
      else ((gT all o).isSome = true ∧ isB (gV all o s) = true) ∧
        (if bv (gV all o s) = gW o then Ct P n (.ex all o rest :: st) (s.kn ((gT all o).getD 0) (gW o)) Q
         else Ct P n (.ops all rest :: st) ((s.kn ((gT all o).getD 0) (!gW o)).pt o.dst (.tu [])) Q)
  | n + 1, .ex all o rest :: st, s, Q =>
      if Cp o.op = true then isB (pkC s o.op) = true ∧ (if bv (pkC s o.op) = true then Ct P n (.ops all rest :: st) (s.pt o.dst (pkA s o.op)) Q else Ct P n (.ops all rest :: st) (s.pt o.dst (pkB s o.op)) Q)
      else if Dd o.op = true then SW P (.ex all o rest :: st) s Q
      else if Eg s o.op = true then SW P (.ex all o rest :: st) s Q
      else (vE P s o.op).1.1 ∧ Ct P n (.ops all rest :: st) ((vE P s o.op).2.pt o.dst (vE P s o.op).1.2) Q
  | n + 1, .cut :: st, s, Q => SW P (.cut :: st) s Q
  | n + 1, .dr all .nil :: st, s, Q => Ct P n st s Q
  | n + 1, .dr all (.cons i b r) :: st, s, Q => (all[i]?).isSome = true ∧ Ct P n (.dx all ((all[i]?).getD Dx) b r :: st) s Q
  | n + 1, .dr all (.fork l) :: st, s, Q => Ct P n (.dr all l :: st) s Q
  | n + 1, .dr all (.alt i r l) :: st, s, Q => ((all[i]?).isSome = true ∧ Ct P n (.dx all ((all[i]?).getD Dx) false r :: st) s Q) ∧ Ct P n (.dr all l :: st) s Q
  | n + 1, .dr all .last :: st, s, Q => True
  | n + 1, .dx all o b r :: st, s, Q => if gN o = true then Ct P n (.dg all o b r :: st) s Q
      else if isU (gV all o s) = true then (gT all o).isSome = true ∧ Ct P n (.dr all r :: st) (s.pt o.dst (.tu [])) Q
      else ((gT all o).isSome = true ∧ isB (gV all o s) = true) ∧
        (if bv (gV all o s) = gW o then Ct P n (.dg all o b r :: st) (s.kn ((gT all o).getD 0) (gW o)) Q
         else Ct P n (.dr all r :: st) ((s.kn ((gT all o).getD 0) (!gW o)).pt o.dst (.tu [])) Q)
  | n + 1, .dg all o true r :: st, s, Q => if Cp o.op = true then isB (pkC s o.op) = true ∧ (if bv (pkC s o.op) = true then Ct P n (.dr all r :: st) (s.pt o.dst (pkA s o.op)) Q else Ct P n (.dr all r :: st) (s.pt o.dst (pkB s o.op)) Q)
      else (vP P s o.op).1 ∧ Ct P n (.dr all r :: st) (s.pt o.dst (vP P s o.op).2) Q
  | n + 1, .dg all o false r :: st, s, Q => if Dd o.op = true then SW P (.dg all o false r :: st) s Q
      else if Cp o.op = true then isB (pkC s o.op) = true ∧ (if bv (pkC s o.op) = true then Ct P n (.dr all r :: st) (s.pt o.dst (pkA s o.op)) Q else Ct P n (.dr all r :: st) (s.pt o.dst (pkB s o.op)) Q)
      else (vE P s o.op).1.1 ∧ Ct P n (.dr all r :: st) ((vE P s o.op).2.pt o.dst (vE P s o.op).1.2) Q
theorem TI {v:AV} (h:isB v=true):v = .b (bv v):=by
 cases v <;> first | rfl | cases h
theorem OJ {P:Program} {all rest:List Oper} {o:Oper} {s:AS} {Q:QE} (h:xO P s o fun s'=>Xk P all rest s' Q):XEx P all o rest s Q:=fun w0 G a w hr =>
 Oper.wp_mono (fun a' w' ⟨_,G',s',h1,h2⟩=>h2 w0 G' a' w' h1) (aBM hr h)
theorem Ny {P:Program} {all rest:List Oper} {o:Oper} {s:AS} {Q:QE} (hg:gN o=true) (h:XEx P all o rest s Q):Xk P all (o :: rest) s Q:=fun w0 G a w hr=>by
 have hn:o.guard=none:=by
  unfold gN at hg
  split at hg
  ·cases hg
  ·assumption
 unfold wpList
 rw [if_pos (FF hn _)]
 exact .inl (h w0 G a w hr)
theorem aB6 {o:Oper} (h:gN o=true):o.guard=none:=by
 unfold gN at h
 split at h
 ·cases h
 ·assumption
theorem NC {w0:Aq} {G:Gh} {s:AS} {a:Act} {w:World} (hr:Rel w0 G s a w) {all:List Oper} {o:Oper} {t:Tmp} (hg:gN o=false) (ht:gT all o=some t) {x:Bool} (hx:AO s.tm t=some (.b x)):Region.wanted o (yielded all.toArray a.tmps)=decide (x=gW o):=by
 unfold gN at hg
 split at hg
 ·rename_i q hgd
  obtain ⟨g,want⟩:=q
  unfold gT at ht
  rw [hgd] at ht
  simp only at ht
  have hW:gW o=want:=by unfold gW;rw [hgd]
  rw [hW]
  obtain ⟨u,hu,hrv⟩:=hr.tm t _ hx
  unfold RV at hrv
  subst hrv
  have hy:yielded all.toArray a.tmps g=some x:=by
   unfold yielded
   have:(all.toArray[g]?).bind (·.dst)=some t:=by simpa using ht
   rw [this];simp [hu]
  simp only [Region.wanted,hgd,hy]
  cases x <;> cases want <;> rfl
 ·cases hg
theorem RP {w0:Aq} {G:Gh} {s:AS} {a:Act} {w:World} (hr:Rel w0 G s a w) {all:List Oper} {o:Oper} {t:Tmp} (hg:gN o=false) (ht:gT all o=some t) (hx:AO s.tm t=some (.tu [])):Region.wanted o (yielded all.toArray a.tmps)=false:=by
 unfold gN at hg
 split at hg
 ·rename_i q hgd
  obtain ⟨g,want⟩:=q
  unfold gT at ht
  rw [hgd] at ht
  simp only at ht
  obtain ⟨u,hu,hrv⟩:=hr.tm t _ hx
  unfold RV at hrv
  obtain ⟨us,rfl,h0⟩:=hrv
  unfold RVs at h0
  subst h0
  have hy:yielded all.toArray a.tmps g=none:=by
   unfold yielded
   have:(all.toArray[g]?).bind (·.dst)=some t:=by simpa using ht
   rw [this];simp [hu]
  simp only [Region.wanted,hgd,hy]
  cases want <;> rfl
 ·cases hg
theorem aI6 {x y:Bool} (h:¬ x=y):x = !y:=by cases x <;> cases y <;> first | rfl | exact absurd rfl h
theorem HP {nx:Nat} {G:Gh} {w:World} {owf:Nat→Option Cb}:RV G w owf nx (.tu []) undef:=by unfold RV;exact ⟨[],rfl,by unfold RVs;rfl⟩
theorem aAm {P:Program} {all rest:List Oper} {o:Oper} {s:AS} {Q:QE} {t:Tmp} (hg:gN o=false) (ht:gT all o=some t) {x:Bool} (hx:AO s.tm t=some (.b x)) (h1:x=gW o→XEx P all o rest (s.kn t (gW o)) Q) (h2:x = !gW o→Xk P all rest ((s.kn t (!gW o)).pt o.dst (.tu [])) Q) :
  Xk P all (o :: rest) s Q:=fun w0 G a w hr=>by
 unfold wpList
 rw [NC hr hg ht hx]
 by_cases hxw:x=gW o
 ·rw [if_pos (by simp [hxw])]
  exact .inl (h1 hxw w0 G a w (hr.kn (hxw ▸ hx)))
 ·rw [if_neg (by simp [hxw])]
  have hx2:x = !gW o:=aI6 hxw
  exact h2 hx2 w0 G _ w ((hr.kn (hx2 ▸ hx)).pt o.dst HP)
theorem aAQ {P:Program} {all rest:List Oper} {o:Oper} {s:AS} {Q:QE} {t:Tmp} (hg:gN o=false) (ht:gT all o=some t) (hx:AO s.tm t=some (.tu [])) (h2:Xk P all rest (s.pt o.dst (.tu [])) Q) :
  Xk P all (o :: rest) s Q:=fun w0 G a w hr=>by
 unfold wpList
 rw [RP hr hg ht hx]
 exact h2 w0 G _ w (hr.pt o.dst HP)
theorem aBj {P:Program} {all:List Oper} {o:Oper} {b:Bool} {r:AN} {s:AS} {Q:QE} (hd:∀ w0 G a w,Rel w0 G s a w→Region.wanted o (yielded all.toArray a.tmps)=true) (h:XDg P all o b r s Q):XDx P all o b r s Q:=fun w0 G a w hr=>by
 have hw:=hd w0 G a w hr
 cases b with
 | true=>obtain ⟨v,h1,h2⟩:=h w0 G a w hr;exact ⟨v,.inl ⟨hw,h1⟩,h2⟩
 | false=>exact ⟨fun _=>h w0 G a w hr,fun hn=>(by rw [hw] at hn;cases hn)⟩
theorem ZV {P:Program} {all:List Oper} {o:Oper} {b:Bool} {r:AN} {s:AS} {Q:QE} (hd:∀ w0 G a w,Rel w0 G s a w→Region.wanted o (yielded all.toArray a.tmps)=false) (h:XDr P all r (s.pt o.dst (.tu [])) Q):XDx P all o b r s Q:=fun w0 G a w hr=>by
 have hw:=hd w0 G a w hr
 have h2:=h w0 G _ w (hr.pt o.dst HP)
 cases b with
 | true=>exact ⟨undef,.inr ⟨hw,rfl⟩,h2⟩
 | false=>exact ⟨fun ht=>(by rw [hw] at ht;cases ht),fun _=>h2⟩
theorem aHB {P:Program} {all:List Oper} {o:Oper} {b:Bool} {r:AN} {s:AS} {Q:QE} {t:Tmp} (hg:gN o=false) (ht:gT all o=some t) {x:Bool} (hx:AO s.tm t=some (.b x)) (h1:x=gW o→XDg P all o b r (s.kn t (gW o)) Q) (h2:x = !gW o→XDr P all r ((s.kn t (!gW o)).pt o.dst (.tu [])) Q):XDx P all o b r s Q:=by
 by_cases hxw:x=gW o
 ·refine aBj (fun w0 G a w hr=>by rw [NC hr hg ht hx,decide_eq_true hxw]) fun w0 G a w hr=>h1 hxw w0 G a w (hr.kn (hxw ▸ hx))
 ·have hx2:x = !gW o:=aI6 hxw
  intro w0 G a w hr
  have hw:Region.wanted o (yielded all.toArray a.tmps)=false:=by rw [NC hr hg ht hx,decide_eq_false hxw]
  have h3:=h2 hx2 w0 G _ w ((hr.kn (hx2 ▸ hx)).pt o.dst HP)
  cases b with
  | true=>exact ⟨undef,.inr ⟨hw,rfl⟩,h3⟩
  | false=>exact ⟨fun ht=>(by rw [hw] at ht;cases ht),fun _=>h3⟩
theorem aDF {P:Program} {w0:Aq} {G:Gh} {s:AS} {a:Act} {w:World} (h:Rel w0 G s a w) (hq:Flq G s) {o:Oper} {k:AV→Prop} (hk:xP P s o.op k) :
  ∃ av v,k av∧RV G w s.owf s.nx av v∧∀ w',Px o w w'→(execOp a.eval o).run P w' = .ok (.value v) w':=by
 cases hp:SR o with
 | false =>
  obtain ⟨av,v,h1,h2,h3⟩:=ZL h hq hk
  exact ⟨av,v,h1,h2,fun w' hw=>h3 w' (hw.resolve_left (by rw [hp];simp))⟩
 | true =>
  obtain ⟨dst,op,type,pos,after,guard⟩:=o
  cases op <;> first | (cases hp;done) | skip
  case move x=>exact ⟨_,_,hk,h.ev x,fun w' _=>rfl⟩
  case nilCheck x =>
   simp only [xP] at hk
   have hv:=h.ev x
   split at hk
   ·rename_i b o' e
    rw [e] at hv
    refine ⟨_,_,hk,hv,fun w' _ => ?_⟩
    unfold RV at hv
    simp only [execOp,hv.2]
    rfl
   ·exact hk.elim
  case fieldAddr t x f =>
   obtain ⟨av,v,h1,h2,h3⟩:=Nj (h.ev x) hk
   refine ⟨av,v,h1,h2,fun w' _ => ?_⟩
   simp only [execOp,Sem.run_bind,h3 w',Result.andThen_ok,Sem.run_pure]
theorem YW {P:Program} {all:List Oper} {o:Oper} {r:AN} {s:AS} {Q:QE} (h1:(vP P s o.op).1) (h2:XDr P all r (s.pt o.dst (vP P s o.op).2) Q):XDg P all o true r s Q:=fun w0 G a w hr=>by
 obtain ⟨G,hr,hq⟩:=hr.flq
 obtain ⟨av,v,e,h3,h4⟩:=aDF (k:=fun av=>av=(vP P s o.op).2) hr hq (aHS h1 rfl)
 subst e
 exact ⟨v,fun w' hb=>h4 w' hb,h2 w0 G _ w (hr.pt o.dst h3)⟩
theorem TO {P:Program} {all:List Oper} {o:Oper} {r:AN} {s:AS} {Q:QE} (h:xO P s o fun s'=>XDr P all r s' Q):XDg P all o false r s Q:=fun w0 G a w hr =>
 Oper.wp_mono (fun a' w' ⟨hb,G',s',h1,h2⟩=>⟨⟨hb,h1.bel⟩,h2 w0 G' a' w' h1⟩) (aBM hr h)
theorem QZ {P:Program} {all:List Oper} {o:Oper} {b:Bool} {r:AN} {s:AS} {Q:QE} (hp:Cp o.op=true) (h1:isB (pkC s o.op)=true) (h2:bv (pkC s o.op)=true→XDr P all r (s.pt o.dst (pkA s o.op)) Q) (h3:bv (pkC s o.op)=false→XDr P all r (s.pt o.dst (pkB s o.op)) Q):XDg P all o b r s Q:=by
 obtain ⟨dst,op,type,pos,after,guard⟩:=o
 cases op <;> simp only [Cp] at hp <;> first | (cases hp;done) | skip
 rename_i c x y
 simp only [pkC,pkA,pkB] at h1 h2 h3
 have hv:=TI h1
 cases b with
 | true =>
  intro w0 G a w hr
  obtain ⟨G,hr,hq⟩:=hr.flq
  obtain ⟨av,v,e,h4,h5⟩:=ZL (o:=⟨dst,.pick c x y,type,pos,after,guard⟩) (k:=fun av=>(bv (s.ev c)=true→av=s.ev x)∧(bv (s.ev c)=false→av=s.ev y)) hr hq (by
   simp only [xP]
   rw [hv]
   exact ⟨fun hx=>⟨fun _=>rfl,fun hn=>(by simp only [bv] at hn hx;rw [hx] at hn;cases hn)⟩,fun hx=>⟨fun hn=>(by simp only [bv] at hn hx;rw [hx] at hn;cases hn),fun _=>rfl⟩⟩)
  refine ⟨v,fun w' hb=>h5 w' (hb.resolve_left (by simp [SR])), ?_⟩
  cases hb:bv (s.ev c) with
  | true=>have:=e.1 hb;subst this;exact h2 hb w0 G _ w (hr.pt dst h4)
  | false=>have:=e.2 hb;subst this;exact h3 hb w0 G _ w (hr.pt dst h4)
 | false =>
  refine TO ?_
  simp only [xO,xP]
  rw [hv]
  exact ⟨fun hx=>h2 hx,fun hx=>h3 hx⟩
theorem aBV {P:Program} {all:List Oper} {i:Nat} {b:Bool} {r:AN} {s:AS} {Q:QE} {o:Oper} (ho:all[i]? = some o) (h:XDx P all o b r s Q):XDr P all (.cons i b r) s Q:=fun w0 G a w hr=>by
 have ho':all.toArray[i]? = some o:=by simpa using ho
 cases b with
 | true =>
  obtain ⟨v,h1,h2⟩:=h w0 G a w hr
  exact ⟨o,v,ho',h1,h2⟩
 | false =>
  obtain ⟨h1,h2⟩:=h w0 G a w hr
  have hl:CV all.toArray i=Hc o:=by unfold CV;rw [ho']
  unfold Fm wpOp
  rw [ho']
  simp only [hl]
  cases hw:Region.wanted o (yielded all.toArray a.tmps) with
  | true=>simp only [if_true];exact .inl (h1 hw)
  | false=>simp only [Bool.false_eq_true,if_false];exact ⟨⟨fun _=>Below.refl _ _,hr.bel⟩,h2 hw⟩
theorem Aa {P:Program}:∀ (n:Nat) (st:List It) (s:AS) (Q:QE),Ct P n st s Q→SW P st s Q
 | 0,st,s,Q,h=>by unfold Ct at h;exact h.elim
 | n+1,[],s,Q,h=>h
 | n+1,.blk i :: st,s,Q,h=>Aa n st s Q h
 | n+1,.ops all [] :: st,s,Q,h=>fun w0 G a w hr=>wpList_nil ⟨G,s,hr,Aa n st s Q h⟩
 | n+1,.ops all (o :: rest) :: st,s,Q,h=>by
  unfold Ct at h
  split at h
  ·rename_i hg
   exact Ny hg (Aa n (.ex all o rest :: st) s Q h)
  ·rename_i hg
   split at h
   ·rename_i hu
    obtain ⟨h1,h2⟩:=h
    obtain ⟨t,ht⟩:=Option.isSome_iff_exists.1 h1
    unfold gV at hu
    rw [ht] at hu
    simp only [Option.getD_some] at hu
    cases hl:AO s.tm t with
    | none=>rw [hl] at hu;cases hu
    | some v =>
     rw [hl] at hu
     simp only [Option.getD_some] at hu
     have hv:v = .tu []:=by
      unfold isU at hu
      split at hu
      ·rfl
      ·cases hu
     exact aAQ (by simpa using hg) ht (hv ▸ hl) (Aa n (.ops all rest :: st) _ Q h2)
   ·obtain ⟨⟨h1,h2⟩,h3⟩:=h
    obtain ⟨t,ht⟩:=Option.isSome_iff_exists.1 h1
    unfold gV at h2 h3
    rw [ht] at h2 h3
    simp only [Option.getD_some] at h2 h3
    cases hl:AO s.tm t with
    | none=>rw [hl] at h2;cases h2
    | some v =>
     rw [hl] at h2 h3
     simp only [Option.getD_some] at h2 h3
     have hv:=TI h2
     refine aAm (by simpa using hg) ht (hv ▸ hl) (fun hx => ?_) (fun hx => ?_)
     ·rw [if_pos hx] at h3;exact Aa n (.ex all o rest :: st) _ Q h3
     ·rw [if_neg (by rw [hx];cases gW o <;> simp)] at h3;exact Aa n (.ops all rest :: st) _ Q h3
 | n+1,.ex all o rest :: st,s,Q,h=>by
  unfold Ct at h
  split at h
  ·rename_i hp
   obtain ⟨h1,h2⟩:=h
   refine OJ ?_
   obtain ⟨dst,op,type,pos,after,guard⟩:=o
   cases op <;> simp only [Cp] at hp <;> first | (cases hp;done) | skip
   rename_i c x y
   simp only [pkC,pkA,pkB] at h1 h2
   have hv:=TI h1
   simp only [xO,xP]
   rw [hv]
   refine ⟨fun hx => ?_,fun hx => ?_⟩
   ·have h3:=h2
    simp only [hx,if_true] at h3;exact Aa n (.ops all rest :: st) _ Q h3
   ·have h3:=h2
    simp only [hx,Bool.false_eq_true,if_false] at h3;exact Aa n (.ops all rest :: st) _ Q h3
  ·split at h
   ·exact h
   ·split at h
    ·exact h
    ·exact OJ (aGg h.1 (Aa n (.ops all rest :: st) _ Q h.2))
 | n+1,.cut :: st,s,Q,h=>h
 | n+1,.dr all .nil :: st,s,Q,h=>fun w0 G a w hr=>⟨G,s,hr,Aa n st s Q h⟩
 | n+1,.dr all (.cons i b r) :: st,s,Q,h=>by
  unfold Ct at h
  obtain ⟨o,ho⟩:=Option.isSome_iff_exists.1 h.1
  rw [ho] at h
  exact aBV ho (Aa n (.dx all o b r :: st) s Q h.2)
 | n+1,.dr all (.fork l) :: st,s,Q,h=>fun w0 G a w hr=>Aa n (.dr all l :: st) s Q h w0 G a w hr
 | n+1,.dr all (.alt i r l) :: st,s,Q,h=>by
  unfold Ct at h
  obtain ⟨o,ho⟩:=Option.isSome_iff_exists.1 h.1.1
  rw [ho] at h
  have h0:XDx P all o false r s (SX (SWb P st Q).2 (SWb P st Q).1 Q):=Aa n (.dx all o false r :: st) s Q h.1.2
  have h1:=aBV ho h0
  have h2:=Aa n (.dr all l :: st) s Q h.2
  exact fun w0 G a w hr=>⟨h1 w0 G a w hr,h2 w0 G a w hr⟩
 | n+1,.dr all .last :: st,s,Q,h=>fun w0 G a w hr=>trivial
 | n+1,.dx all o b r :: st,s,Q,h=>by
  unfold Ct at h
  split at h
  ·rename_i hg
   exact aBj (fun _ _ _ _ _=>FF (aB6 hg) _) (Aa n (.dg all o b r :: st) s Q h)
  ·rename_i hg
   split at h
   ·rename_i hu
    obtain ⟨h1,h2⟩:=h
    obtain ⟨t,ht⟩:=Option.isSome_iff_exists.1 h1
    unfold gV at hu
    rw [ht] at hu
    simp only [Option.getD_some] at hu
    cases hl:AO s.tm t with
    | none=>rw [hl] at hu;cases hu
    | some v =>
     rw [hl] at hu
     simp only [Option.getD_some] at hu
     have hv:v = .tu []:=by
      unfold isU at hu
      split at hu
      ·rfl
      ·cases hu
     exact ZV (fun _ _ _ _ hr=>RP hr (by simpa using hg) ht (hv ▸ hl)) (Aa n (.dr all r :: st) _ Q h2)
   ·obtain ⟨⟨h1,h2⟩,h3⟩:=h
    obtain ⟨t,ht⟩:=Option.isSome_iff_exists.1 h1
    unfold gV at h2 h3
    rw [ht] at h2 h3
    simp only [Option.getD_some] at h2 h3
    cases hl:AO s.tm t with
    | none=>rw [hl] at h2;cases h2
    | some v =>
     rw [hl] at h2 h3
     simp only [Option.getD_some] at h2 h3
     have hv:=TI h2
     refine aHB (by simpa using hg) ht (hv ▸ hl) (fun hx => ?_) (fun hx => ?_)
     ·rw [if_pos hx] at h3;exact Aa n (.dg all o b r :: st) _ Q h3
     ·rw [if_neg (by rw [hx];cases gW o <;> simp)] at h3;exact Aa n (.dr all r :: st) _ Q h3
 | n+1,.dg all o true r :: st,s,Q,h=>by
  unfold Ct at h
  split at h
  ·rename_i hp
   obtain ⟨h1,h2⟩:=h
   show XDg P all o true r s (SX (SWb P st Q).2 (SWb P st Q).1 Q)
   refine QZ hp h1 (fun hx => ?_) (fun hx => ?_)
   ·rw [if_pos hx] at h2;exact Aa n (.dr all r :: st) _ Q h2
   ·rw [if_neg (by rw [hx];simp)] at h2;exact Aa n (.dr all r :: st) _ Q h2
  ·exact YW h.1 (Aa n (.dr all r :: st) _ Q h.2)
 | n+1,.dg all o false r :: st,s,Q,h=>by
  unfold Ct at h
  split at h
  ·exact h
  ·split at h
   ·rename_i hp
    obtain ⟨h1,h2⟩:=h
    show XDg P all o false r s (SX (SWb P st Q).2 (SWb P st Q).1 Q)
    refine QZ hp h1 (fun hx => ?_) (fun hx => ?_)
    ·rw [if_pos hx] at h2;exact Aa n (.dr all r :: st) _ Q h2
    ·rw [if_neg (by rw [hx];simp)] at h2;exact Aa n (.dr all r :: st) _ Q h2
   ·exact TO (aGg h.1 (Aa n (.dr all r :: st) _ Q h.2))
 | n+1,.code c :: st,s,Q,h=>by
  show XW P c s _
  cases c with
  | skip=>exact fun w0 G a w hr=>wp_skip ⟨G,s,hr,Aa n st s Q h⟩
  | ret=>exact fun w0 G a w hr=>wp_ret ⟨G,s,hr,Mg h _⟩
  | seq x y =>
   have:=Aa n (.code x :: .code y :: st) s Q h
   intro w0 G a w hr
   refine wp_seq (wp_mono (this w0 G a w hr) fun e a' w' ⟨G',s',hr',hq⟩ => ?_)
   cases e <;> first | exact hq w0 G' a' w' hr' | exact ⟨G',s',hr',hq⟩
  | cond c x y =>
   unfold Ct at h
   obtain ⟨h1,h2⟩:=h
   have hv:=TI h1
   intro w0 G a w hr
   have hc:=hr.ev c
   rw [hv] at hc
   unfold RV at hc
   refine wp_cond_split hc (fun ht => ?_) (fun ht => ?_)
   ·rw [if_pos ht] at h2;exact Aa n (.code x :: st) s Q h2 w0 G a w hr
   ·rw [if_neg (by rw [ht];simp)] at h2;exact Aa n (.code y :: st) s Q h2 w0 G a w hr
  | block id x =>
   have:=Aa n (.code x :: .blk id :: st) s Q h
   intro w0 G a w hr
   refine wp_block (wp_mono (this w0 G a w hr) fun e a' w' ⟨G',s',hr',hq⟩ => ?_)
   cases e
   case exit id2 _x =>
    have hq':if id2=id then (SWb P st Q).2 s' else SXe (SWb P st Q).1 Q (.exit id2) s':=hq
    unfold Exit.inBlock
    by_cases hid:id2=id
    ·simp only [hid,if_true] at hq' ⊢; exact ⟨G',s',hr',hq'⟩
    ·simp only [hid,if_false] at hq' ⊢; exact ⟨G',s',hr',hq'⟩
   all_goals exact ⟨G',s',hr',hq⟩
  | exit id =>
   unfold Ct at h
   cases hst:Eo id st with
   | none =>
    rw [hst] at h
    exact fun w0 G a w hr=>wp_exit ⟨G,s,hr,Gv hst h⟩
   | some st' =>
    rw [hst] at h
    exact fun w0 G a w hr=>wp_exit ⟨G,s,hr,EA hst (Aa n st' s Q h)⟩
  | loop x=>exact h
  | region id ops d =>
   unfold Ct at h
   split at h
   ·rename_i hd;subst hd;exact h
   ·rename_i hd
    have hd':d=false:=by cases d <;> simp_all
    subst hd'
    have:=Aa n (.ops ops.toList ops.toList :: st) s Q h
    exact fun w0 G a w hr=>wp_region_list (this w0 G a w hr)
  | rangeFunc _ _ _ _=>unfold Ct at h;exact h.elim
  | scope _=>unfold Ct at h;exact h.elim
  | label _=>unfold Ct at h;exact h.elim
  | goto _=>unfold Ct at h;exact h.elim
  | refuse _=>unfold Ct at h;exact h.elim
theorem Iy {Q:QE} {c:List PanicEntry} {s:AS} (h:¬ Q (.panic c) s):∀ (b:List (Nat × (AS→Prop))),¬ SXe b Q (.panic c) s
 | []=>h
 | _ :: b=>Iy h b
theorem Ac {P:Program} {id:Nat} {ops:Array Oper} {st:List It} {s:AS} {Q:QE} (ord:AN) (hm:P.follows .mixedOrders=true) (hQ:∀ c s,¬ Q (.panic c) s) (hc:(Region.noSelect ops && (Ae ord && !EF ord) && Ag ops ord ops.size (Array.replicate ops.size false))=true)
  (h:SW P (.dr ops.toList ord :: st) s Q):SW P (.code (.region id ops true) :: st) s Q:=fun w0 G a w hr=>by
 simp only [Bool.and_eq_true] at hc
 have hd:=hr.later (Below.refl _ _).drew
 refine Vn hm hc.1.1 (fun c a w ⟨_,s,_,hq⟩=>Iy (hQ c s) _ hq) (by rw [Bool.and_eq_true];exact hc.1.2) hc.2 (S:=SW0 w0) hd.bel ?_
 exact h w0 G a w.drew hd
def VM (s:AS) (o:Oper):Bool:=match o.op with
 | .move _=>true
 | .nilCheck _=>true
 | .fieldAddr _ _ _=>true
 | .load _ x=>match s.ev x with | .eb _ _ _=>true | _=>false
 | .indexAddr _ x _=>match s.ev x with | .br _=>true | _=>false
 | .binOp .sub _ x y _=>match s.ev x with | .i _=>(match s.ev y with | .i _=>true | _=>false) | _=>false
 | .binOp .add _ x y _=>match s.ev x with | .i _=>(match s.ev y with | .i _=>true | _=>false) | _=>false
 | _=>false
theorem aHT {P:Program} {w0:Aq} {G:Gh} {s:AS} {a:Act} {w:World} (h:Rel w0 G s a w) {o:Oper} (hs:VM s o=true) {k:AV→Prop} (hk:xP P s o.op k) :
  ∃ av v,k av∧RV G w s.owf s.nx av v∧∀ w',(∀ g,G.Z g→w'.heap[g]? = w.heap[g]?)→(execOp a.eval o).run P w' = .ok (.value v) w':=by
 have pur:SR o=true→∃ av v,k av∧RV G w s.owf s.nx av v∧∀ w',(∀ g,G.Z g→w'.heap[g]? = w.heap[g]?)→(execOp a.eval o).run P w' = .ok (.value v) w':=fun hp=>by
  obtain ⟨dst,op,type,pos,after,guard⟩:=o
  cases op <;> first | (cases hp;done) | skip
  case move x=>exact ⟨_,_,hk,h.ev x,fun w' _=>rfl⟩
  case nilCheck x =>
   simp only [xP] at hk
   have hv:=h.ev x
   split at hk
   ·rename_i b o' e
    rw [e] at hv
    refine ⟨_,_,hk,hv,fun w' _ => ?_⟩
    unfold RV at hv
    simp only [execOp,hv.2]
    rfl
   ·exact hk.elim
  case fieldAddr t x f =>
   obtain ⟨av,v,h1,h2,h3⟩:=Nj (h.ev x) hk
   refine ⟨av,v,h1,h2,fun w' _ => ?_⟩
   simp only [execOp,Sem.run_bind,h3 w',Result.andThen_ok,Sem.run_pure]
 obtain ⟨dst,op,type,pos,after,guard⟩:=o
 unfold VM at hs
 cases op <;> simp only at hs <;> first | (cases hs;done) | exact pur rfl | skip
 case binOp bop T x y yt =>
  simp only [xP] at hk
  have hx:=h.ev x
  have hy:=h.ev y
  cases bop <;> simp only at hs <;> first | (cases hs;done) | skip
  all_goals
   cases hv:s.ev x with
   | i m =>
    rw [hv] at hk hx hs
    simp only at hs
    cases hu:s.ev y with
    | i n =>
     rw [hu] at hk hy
     unfold PP Om OY aDo at hk
     simp only [Bool.false_eq_true,if_false] at hk
     obtain ⟨h1,h2⟩:=hk
     unfold RV at hx hy
     refine ⟨_,_,h2,by unfold RV;rfl,fun w' _ => ?_⟩
     simp [execOp,hx,hy,eqGuard,binOp,Op.intArith,Sem.run_bind,Sem.run_pure,FG h1]
    | _=>rw [hu] at hs;cases hs
   | _=>rw [hv] at hs;cases hs
 case load t x =>
  simp only [xP] at hk
  have hx:=h.ev x
  cases hv:s.ev x with
  | eb d kk off =>
   rw [hv] at hk hx
   unfold Qa at hk
   cases ht:DN P t with
   | none=>rw [ht] at hk;exact hk.elim
   | some m =>
    rw [ht] at hk
    simp only at hk
    unfold RV at hx
    obtain ⟨sz,n,cs,a',o0,len,cap,rfl,ev,hr,hkn⟩:=hx
    obtain ⟨b,off',vs,e,hS,hc,hrs,hvl,hln⟩:=hr.cell hkn
    injection e with e
    injection e with e1 e2
    subst e1;subst e2
    have hr2:RVs G w s.owf s.nx ((Hf (.rows sz n cs) kk).map avB) (rowAt sz vs kk):=RVs.of_rep (S:=G.Z) (fun d v hd=>JC hd) ((hrs.drop (kk * sz)).take sz)
    obtain ⟨av,v,q1,q2,q3⟩:=Oe ht hr2 (g:=a') (o0:=o0+kk * sz) (off:=off) (C:=fun w'=>∀ g,G.Z g→w'.heap[g]? = w.heap[g]?) (fun w' hb=>(hc.keep (hb a' hS)).row sz kk) hk
    refine ⟨av,v,q1,q2,fun w' hb => ?_⟩
    simp only [execOp,Sem.run_bind,ev,q3 w' hb,Result.andThen_ok,Sem.run_pure]
  | _=>rw [hv] at hs;cases hs
 case indexAddr t x i =>
  simp only [xP] at hk
  have hx:=h.ev x
  have hi:=h.ev i
  cases hv:s.ev x with
  | br d =>
   rw [hv] at hk hx
   unfold aA7 at hk
   cases ht:BK P t with
   | none=>rw [ht] at hk;exact hk.elim
   | some q =>
    obtain ⟨e,esz⟩:=q
    rw [ht] at hk
    cases hiv:s.ev i with
    | i j =>
     rw [hiv] at hk hi
     unfold RV at hi
     simp only at hk
     cases d with
     | rows sz n cs =>
      simp only at hk
      obtain ⟨rfl,⟨h0,h1⟩,hk⟩:=hk
      unfold RV at hx
      obtain ⟨a',cap,e1,_⟩:=hx.shape
      have hlt:j.toNat<n:=by omega
      rw [e1] at hx
      obtain ⟨b,off,vs,rfl,_⟩:=hx.cell hlt
      refine ⟨_,_,hk,by unfold RV;exact ⟨sz,n,cs,b,off,n,cap,rfl,rfl,hx,hlt⟩,fun w' _ => ?_⟩
      simp only [execOp,Sem.run_bind,e1,hi,Fy ht h0 h1,Result.andThen_ok,Sem.run_pure]
      rfl
     | _=>exact hk.elim
    | _=>rw [hiv] at hk;exact hk.elim
  | _=>rw [hv] at hs;cases hs
theorem Rel.rebase {w0:Aq} {G:Gh} {s:AS} {a:Act} {w:World} (h:Rel w0 G s a w):∃ w1:Aq,w1.toWorld=w∧(∀ k,G.Z k→¬ w1.wr k)∧Rel w1 G s a w∧∀ G' s' a' w',Rel w1 G' s' a' w'→Rel w0 G' s' a' w':=by
 have hsz:=h.bel.size
 refine ⟨{ toWorld:=w,mv:=fun k=>¬ G.Z k∧(w0.heap.size≤k∨w0.wr k),wr:=fun k=>¬ G.Z k∧(w0.heap.size≤k∨w0.wr k),pb:=w0.pb,pv:=w0.pv,zs:=G.Z,wm:=fun _ h=>h,mw:=fun _ h=>h,gi:=fun w' h1 h2=>w0.gi w' (Nat.le_trans hsz h1) fun k hk hn=>(h2 k (Nat.lt_of_lt_of_le hk hsz) fun hc => ?_).trans (h.bel.block k hk hn),gz:=fun k hk=>h.zz.1 k (w0.gz k hk) },rfl,fun k hk hc=>hc.1 hk, ?_, ?_⟩
 ·rcases hc.2 with hc | hc
  ·omega
  ·exact hn hc
 ·refine ⟨h.nt,h.df,h.tm,fun b cs hb => ?_,h.inj,fun o I ho => ?_,h.dis,Bel.refl _ _,h.zl,h.pb,fun k hk=>hk,fun k hk => .inl hk⟩
  ·obtain ⟨q1,⟨q2,q3⟩,q4⟩:=h.bx b cs hb
   exact ⟨q1,⟨q2,.inr ⟨q2,q3⟩⟩,q4⟩
  ·obtain ⟨q1,⟨r1,r2,r3,r4⟩,q3⟩:=h.own o I ho
   refine ⟨q1,⟨fun k hk => ?_,r2,r3,fun T hT => ?_⟩,q3⟩
   ·obtain ⟨⟨z1,z2⟩,z3⟩:=r1 k hk
    exact ⟨⟨z1,.inr ⟨z1,z2.imp id (w0.mw k)⟩⟩,z3⟩
   ·obtain ⟨sz,n,cs,vs,e1,e2,e3,e4,e5⟩:=r4 T hT
    exact ⟨sz,n,cs,vs,e1,e2,e3,fun k hk=>⟨(e4 k hk).1,.inr ⟨(r1 k (e4 k hk).1).1.1,(e4 k hk).2⟩⟩,e5⟩
 ·intro G' s' a' w' h'
  have hsz':=h'.bel.size
  have hsz2:w.heap.size≤w'.heap.size:=hsz'
  refine ⟨h'.nt,h'.df,h'.tm,fun b cs hb => ?_,h'.inj,fun o I ho => ?_,h'.dis,⟨h'.bel.os.trans h.bel.os,h'.bel.tape.trans h.bel.tape,h'.bel.output.trans h.bel.output,Nat.le_trans hsz hsz2,fun k hk hn => ?_⟩,h'.zl,h'.pb,fun k hk=>h'.zz.1 k (h.zz.1 k hk),fun k hk => ?_⟩
  ·obtain ⟨q1,⟨q2,q3⟩,q4⟩:=h'.bx b cs hb
   refine ⟨q1,⟨q2, ?_⟩,q4⟩
   rcases q3 with q3 | q3
   ·exact .inl (Nat.le_trans hsz q3)
   ·exact q3.2
  ·obtain ⟨q1,⟨r1,r2,r3,r4⟩,q3⟩:=h'.own o I ho
   refine ⟨q1,⟨fun k hk => ?_,r2,r3,fun T hT => ?_⟩,q3⟩
   ·obtain ⟨⟨z1,z2⟩,z3⟩:=r1 k hk
    refine ⟨⟨z1, ?_⟩,z3⟩
    rcases z2 with z2 | z2
    ·exact .inl (Nat.le_trans hsz z2)
    ·exact z2.2.imp id (w0.wm k)
   ·obtain ⟨sz,n,cs,vs,e1,e2,e3,e4,e5⟩:=r4 T hT
    refine ⟨sz,n,cs,vs,e1,e2,e3,fun k hk=>⟨(e4 k hk).1, ?_⟩,e5⟩
    rcases (e4 k hk).2 with z | z
    ·exact .inl (Nat.le_trans hsz z)
    ·exact z.2
  ·refine (h'.bel.block k (Nat.lt_of_lt_of_le hk hsz) fun hc => ?_).trans (h.bel.block k hk hn)
   rcases hc.2 with hc | hc
   ·omega
   ·exact hn hc
  ·rcases h'.zz.2 k hk with q | q | q
   ·exact h.zz.2 k q
   ·rcases q.2 with q | q
    ·exact .inr (.inr q)
    ·exact .inr (.inl (w0.wm k q))
   ·exact .inr (.inr (Nat.le_trans hsz q))
def aA6 (P:Program) (all:List Oper):List Nat→AS→Prop
 | [],_=>True
 | i :: l,s=>(((all[i]?).isSome=true∧gN ((all[i]?).getD Dx)=true)∧VM s ((all[i]?).getD Dx)=true∧(vP P s ((all[i]?).getD Dx).op).1)∧aA6 P all l (s.pt ((all[i]?).getD Dx).dst (vP P s ((all[i]?).getD Dx).op).2)
def Ze (P:Program) (all:List Oper):List Nat→AS→AS
 | [],s=>s
 | i :: l,s=>Ze P all l (s.pt ((all[i]?).getD Dx).dst (vP P s ((all[i]?).getD Dx).op).2)
theorem Xh {P:Program} {all:List Oper} {w0:Aq} {w:World} {S:World→Prop} {K:Act→Prop} {G:Gh} (hS:∀ w',S w'→∀ g,G.Z g→w'.heap[g]? = w.heap[g]?):∀ (pre:List Nat) (s:AS) (a:Act),Rel w0 G s a w→aA6 P all pre s→(∀ a',Rel w0 G (Ze P all pre s) a' w→K a')→PJ P all.toArray S K pre a
 | [],s,a,hr,_,hk=>hk a hr
 | i :: l,s,a,hr,hc,hk=>by
  obtain ⟨⟨⟨h1,h2⟩,h3,h4⟩,h5⟩:=hc
  obtain ⟨o,ho⟩:=Option.isSome_iff_exists.1 h1
  unfold Ze at hk
  rw [ho] at h2 h3 h4 h5 hk
  simp only [Option.getD_some] at h2 h3 h4 h5 hk
  obtain ⟨av,v,e,q1,q2⟩:=aHT (k:=fun av=>av=(vP P s o.op).2) hr h3 (aHS h4 rfl)
  subst e
  exact ⟨o,v,by simpa using ho,.inl ⟨FF (aB6 h2) _,fun w' hw=>q2 w' (hS w' hw)⟩,Xh hS l _ _ (hr.pt o.dst q1) h5 hk⟩
theorem Cr {P:Program} {id:Nat} {ops:Array Oper} {st:List It} {s:AS} {Q:QE} (pre:List Nat) (ord:AN) (hm:P.follows .mixedOrders=true) (hQ:∀ c s,¬ Q (.panic c) s)
  (hc:(Region.noSelect ops && (Ae ord && !EF ord) && (LD ops pre (Array.replicate ops.size false) && decide (pre.length≤ops.size)) && Ag ops ord (ops.size-pre.length) (aDh pre (Array.replicate ops.size false)))=true)
  (hp:aA6 P ops.toList pre s) (h:SW P (.dr ops.toList ord :: st) (Ze P ops.toList pre s) Q):SW P (.code (.region id ops true) :: st) s Q:=fun w0 G a w hr=>by
 simp only [Bool.and_eq_true,decide_eq_true_eq] at hc
 obtain ⟨⟨⟨c1,c2⟩,c3,c4⟩,c5⟩:=hc
 have hd:=hr.later (Below.refl _ _).drew
 obtain ⟨w1,e1,hz,hd1,hback⟩:=hd.rebase
 refine wp_mono (Q:=Lft w1 _) (Tr (S:=SW0 w1) hm c1 (fun c a w ⟨_,s,_,hq⟩=>Iy (hQ c s) _ hq) (by rw [Bool.and_eq_true];exact c2) c3 c4 c5 hd1.bel ?_) fun e a' w' ⟨G',s',hr',hq⟩=>⟨G',s',hback _ _ _ _ hr',hq⟩
 refine Xh (w0:=w1) (w:=w.drew) (G:=G) (fun w' hw g hg => ?_) pre s a hd1 hp fun a' hr'=>h w1 G a' w.drew hr'
 have:=hw.block g (by rw [e1];exact hd.zl g hg) (hz g hg)
 rw [this,e1]
mutual
def aA (s:AS):AV→PD→Prop
 | .ag cs,.ag ds=>aDs s cs ds
 | .y n,.byt m=>n=m
 | .fn f c,.fn g ps=>f=g∧aAs s c ps
 | .rp cs,.rf ps=>aAs s cs ps
 | .bx b off,.rf ps=>off=0∧match AO s.bx b with
  | some cs=>aAs s cs ps
  | none=>False
 | a,.one d=>aD s a d
 | _,_=>False
def aAs (s:AS):List AV→List PD→Prop
 | [],[]=>True
 | a :: r,p :: ps=>aA s a p∧aAs s r ps
 | _,_=>False
end
mutual
theorem aDV {s:AS}:∀ {a:AV} {p:PD},aA s a p→QB s a p
 | .fn f c,.fn g ps,h=>by
  unfold aA at h
  obtain ⟨rfl,h⟩:=h
  exact .fn (Am h)
 | .i _,.fn _ _,h=>by unfold aA at h;exact h.elim
 | .b _,.fn _ _,h=>by unfold aA at h;exact h.elim
 | .s _,.fn _ _,h=>by unfold aA at h;exact h.elim
 | .y _,.fn _ _,h=>by unfold aA at h;exact h.elim
 | .nl _,.fn _ _,h=>by unfold aA at h;exact h.elim
 | .x _,.fn _ _,h=>by unfold aA at h;exact h.elim
 | .sl _,.fn _ _,h=>by unfold aA at h;exact h.elim
 | .sp _ _,.fn _ _,h=>by unfold aA at h;exact h.elim
 | .br _,.fn _ _,h=>by unfold aA at h;exact h.elim
 | .bx _ _,.fn _ _,h=>by unfold aA at h;exact h.elim
 | .eb _ _ _,.fn _ _,h=>by unfold aA at h;exact h.elim
 | .eo _ _ _,.fn _ _,h=>by unfold aA at h;exact h.elim
 | .ag _,.fn _ _,h=>by unfold aA at h;exact h.elim
 | .tu _,.fn _ _,h=>by unfold aA at h;exact h.elim
 | .rp _,.fn _ _,h=>by unfold aA at h;exact h.elim
 | .un,.fn _ _,h=>by unfold aA at h;exact h.elim
 | .rp cs,.rf ps,h=>by unfold aA at h;exact .rp (Am h)
 | .bx b off,.rf ps,h=>by
  unfold aA at h
  obtain ⟨rfl,h⟩:=h
  cases hl:AO s.bx b with
  | none=>rw [hl] at h;exact h.elim
  | some cs=>rw [hl] at h;exact .rf hl (Am h)
 | .i _,.rf _,h=>by unfold aA at h;exact h.elim
 | .b _,.rf _,h=>by unfold aA at h;exact h.elim
 | .s _,.rf _,h=>by unfold aA at h;exact h.elim
 | .y _,.rf _,h=>by unfold aA at h;exact h.elim
 | .nl _,.rf _,h=>by unfold aA at h;exact h.elim
 | .x _,.rf _,h=>by unfold aA at h;exact h.elim
 | .sl _,.rf _,h=>by unfold aA at h;exact h.elim
 | .sp _ _,.rf _,h=>by unfold aA at h;exact h.elim
 | .br _,.rf _,h=>by unfold aA at h;exact h.elim
 | .eb _ _ _,.rf _,h=>by unfold aA at h;exact h.elim
 | .eo _ _ _,.rf _,h=>by unfold aA at h;exact h.elim
 | .fn _ _,.rf _,h=>by unfold aA at h;exact h.elim
 | .ag _,.rf _,h=>by unfold aA at h;exact h.elim
 | .tu _,.rf _,h=>by unfold aA at h;exact h.elim
 | .un,.rf _,h=>by unfold aA at h;exact h.elim
 | a,.one d,h=>by cases a <;> (unfold aA at h;exact .one h)
 | a,.ag ds,h=>by cases a <;> unfold aA at h <;> first | exact h.elim | exact .ag h
 | a,.byt m,h=>by cases a <;> unfold aA at h <;> first | exact h.elim | (subst h;exact .byt)
theorem Am {s:AS}:∀ {l:List AV} {ps:List PD},aAs s l ps→DZ s l ps
 | [],[],_ => .nil
 | a :: r,p :: ps,h=>by unfold aAs at h;exact .cons (aDV h.1) (Am h.2)
 | [],_ :: _,h=>by unfold aAs at h;exact h.elim
 | _ :: _,[],h=>by unfold aAs at h;exact h.elim
end
def okR:List PD→Prop
 | []=>True
 | .one _ :: r=>okR r
 | .ag _ :: r=>okR r
 | _=>False
theorem Rd:∀ {rs:List PD},okR rs→∀ r ∈ rs,(∃ d,r = .one d)∨∃ ds,r = .ag ds
 | [],_,r,hr=>by cases hr
 | .one d :: l,h,r,hr=>by
  rcases List.mem_cons.1 hr with rfl | hr
  ·exact .inl ⟨d,rfl⟩
  ·exact Rd (rs:=l) h r hr
 | .ag ds :: l,h,r,hr=>by
  rcases List.mem_cons.1 hr with rfl | hr
  ·exact .inr ⟨ds,rfl⟩
  ·exact Rd (rs:=l) h r hr
theorem Rg {P:Program} {dst:Option Tmp} {f:Operand} {args:Array Operand} {tys:Array TypeId} {ty:TypeId} {pos:String} {af:Array Edge} {gd:Option (Nat × Bool)} {s:AS} {F:FuncId} {cap:List AV} {ps rs:List PD} {K:AS→Prop}
  (hf:s.ev f = .fn F cap) (hc:Con P F ps rs) (ha:DZ s (args.toList.map s.ev++cap) ps) (ho:okR rs) (h:K ((mkR s (CL rs)).2.pt dst (QD (FZ rs (mkR s (CL rs)).1)))):xO P s ⟨dst,.call ⟨.value f,args,tys⟩,ty,pos,af,gd⟩ K:=by
 simp only [xO]
 rw [hf]
 exact ⟨ps,rs,ha,hc,Rd ho,h⟩
theorem As {P:Program} {all rest:List Oper} {st:List It} {dst:Option Tmp} {f:Operand} {args:Array Operand} {tys:Array TypeId} {ty:TypeId} {pos:String} {af:Array Edge} {gd:Option (Nat × Bool)} {s:AS} {Q:QE} {F:FuncId} {cap:List AV} {ps rs:List PD}
  (hc:Con P F ps rs) (hf:s.ev f = .fn F cap) (ha:DZ s (args.toList.map s.ev++cap) ps) (ho:okR rs) (h:SW P (.ops all rest :: st) ((mkR s (CL rs)).2.pt dst (QD (FZ rs (mkR s (CL rs)).1))) Q) :
  SW P (.ex all ⟨dst,.call ⟨.value f,args,tys⟩,ty,pos,af,gd⟩ rest :: st) s Q :=
 OJ (Rg (K:=fun s'=>Xk P all rest s' (SX (SWb P st Q).2 (SWb P st Q).1 Q)) hf hc ha ho h)
theorem AR {P:Program} {all:List Oper} {r:AN} {st:List It} {dst:Option Tmp} {f:Operand} {args:Array Operand} {tys:Array TypeId} {ty:TypeId} {pos:String} {af:Array Edge} {gd:Option (Nat × Bool)} {s:AS} {Q:QE} {F:FuncId} {cap:List AV} {ps rs:List PD}
  (hc:Con P F ps rs) (hf:s.ev f = .fn F cap) (ha:DZ s (args.toList.map s.ev++cap) ps) (ho:okR rs) (h:SW P (.dr all r :: st) ((mkR s (CL rs)).2.pt dst (QD (FZ rs (mkR s (CL rs)).1))) Q) :
  SW P (.dg all ⟨dst,.call ⟨.value f,args,tys⟩,ty,pos,af,gd⟩ false r :: st) s Q :=
 TO (Rg (K:=fun s'=>XDr P all r s' (SX (SWb P st Q).2 (SWb P st Q).1 Q)) hf hc ha ho h)
def qLp {ι:Type} (P:Program) (I:ι→Prop) (S:ι→AS) (μ:ι→Nat) (i:ι) (st:List It) (Q:QE):QE:=fun e s'=>match e with
 | .normal=>∃ (j:ι) (ρ:Nat→Nat),I j∧μ j<μ i∧Sub ρ (S j) s'
 | .exit id=>(Eo id st).isSome=true∧SW P ((Eo id st).getD []) s' Q
 | .ret=>Q .ret s'
 | _=>False
theorem Al {P:Program} {x:Code} {st:List It} {s:AS} {Q:QE} {ι:Type} (I:ι→Prop) (S:ι→AS) (μ:ι→Nat) (i0:ι) (ρ0:Nat→Nat) (hI:I i0) (h0:Sub ρ0 (S i0) s)
  (hr:∀ i,I i→SW P [.code x] (S i) (qLp P I S μ i st Q)):SW P (.code (.loop x) :: st) s Q:=by
 intro w0 G a w hrel
 obtain ⟨G0,hr0⟩:=hrel.sub h0
 have hmin:∀ (a:Act) (w:World),(∃ i G,I i∧Rel w0 G (S i) a w)→∃ n,(∃ i G,(I i∧Rel w0 G (S i) a w)∧μ i=n)∧∀ m,(∃ i G,(I i∧Rel w0 G (S i) a w)∧μ i=m)→n≤m:=by
  intro a w ⟨i,G,h⟩
  have:∀ k,∀ i G,I i∧Rel w0 G (S i) a w→μ i≤k→∃ n,(∃ i G,(I i∧Rel w0 G (S i) a w)∧μ i=n)∧∀ m,(∃ i G,(I i∧Rel w0 G (S i) a w)∧μ i=m)→n≤m:=by
   intro k
   induction k with
   | zero=>intro i G h hk;exact ⟨μ i,⟨i,G,h,rfl⟩,fun m _=>by omega⟩
   | succ k ih =>
    intro i G h hk
    by_cases hx:∃ i' G',(I i'∧Rel w0 G' (S i') a w)∧μ i'≤k
    ·obtain ⟨i',G',h',hk'⟩:=hx
     exact ih i' G' h' hk'
    ·refine ⟨μ i,⟨i,G,h,rfl⟩,fun m ⟨i',G',h',hm⟩ => ?_⟩
     by_cases hm2:m≤k
     ·exact absurd ⟨i',G',h',by omega⟩ hx
     ·omega
  exact this (μ i) i G h (Nat.le_refl _)
 classical
 let ν:Act→World→Nat:=fun a w=>if h:∃ i G,I i∧Rel w0 G (S i) a w then (hmin a w h).choose else 0
 have hν:∀ a w,(h:∃ i G,I i∧Rel w0 G (S i) a w)→(∃ i G,(I i∧Rel w0 G (S i) a w)∧μ i=ν a w)∧∀ i G,I i∧Rel w0 G (S i) a w→ν a w≤μ i:=fun a w h=>by
  have h1:ν a w=(hmin a w h).choose:=dif_pos h
  obtain ⟨h2,h3⟩:=(hmin a w h).choose_spec
  rw [h1]
  exact ⟨h2,fun i G hr=>h3 _ ⟨i,G,hr,rfl⟩⟩
 refine wp_loop (fun a w=>∃ i G,I i∧Rel w0 G (S i) a w) ν ⟨i0,G0,hI,hr0⟩ fun a w hII => ?_
 obtain ⟨⟨i,G,hri,hi⟩,_⟩:=hν a w hII
 refine wp_mono (Dm (hr i hri.1) w0 G a w hri.2) fun e a' w' ⟨G',s',hr',hq⟩ => ?_
 cases e
 case normal =>
  obtain ⟨j,ρ,hIj,hlt,hsub⟩:=hq
  obtain ⟨G2,hr2⟩:=hr'.sub hsub
  have h2:∃ i G,I i∧Rel w0 G (S i) a' w':=⟨j,G2,hIj,hr2⟩
  exact ⟨h2,by have:=(hν a' w' h2).2 j G2 ⟨hIj,hr2⟩;omega⟩
 case exit id _x =>
  obtain ⟨h1,h2⟩:=hq
  obtain ⟨st',hst⟩:=Option.isSome_iff_exists.1 h1
  rw [hst] at h2
  exact ⟨G',s',hr',EA hst h2⟩
 case ret =>
  have hq':Q .ret s':=hq
  exact ⟨G',s',hr',Mg hq' _⟩
 all_goals exact hq.elim
theorem Zz {P:Program} {all rest:List Oper} {st:List It} {dst:Option Tmp} {t:TypeId} {x:Operand} {lo hi:Option Operand} {ty:TypeId} {pos:String} {af:Array Edge} {gd:Option (Nat × Bool)} {s:AS} {Q:QE} (o:Nat) {sz n:Nat} {cs:List D} {T:TypeId} {dp:Bool}
  (hx:s.ev x = .sl o) (hI:s.owf o=some ⟨.rows sz n cs,some T,dp⟩) (hT:(BK P t).map (·.2)=some sz) (hv:(Jg (ixL (lo.map s.ev)) (ixH n (hi.map s.ev)) n).1)
  (h:SW P (.ops all rest :: st) ((s.mk' [o] ⟨Hq (.rows sz n cs) (Jg (ixL (lo.map s.ev)) (ixH n (hi.map s.ev)) n).2.1 (Jg (ixL (lo.map s.ev)) (ixH n (hi.map s.ev)) n).2.2,some T,dp⟩).pt dst (.sl s.nx)) Q) :
  SW P (.ex all ⟨dst,.slice t x lo hi none,ty,pos,af,gd⟩ rest :: st) s Q:=fun w0 G a w hr=>by
 obtain ⟨l,h',e1,e2,e3,e4⟩:=JD hv
 rw [e4] at h
 obtain ⟨e,he⟩:=Lz hT
 obtain ⟨a0,cap,hu,hnc,G',hr',hrv⟩:=Ww hr hI (hr.ev x) hx (l:=l.toNat) (h':=h'.toNat) (by omega) (by omega)
 have hrun:=Uk (P:=P) (G:=G) (W:=w) (owf:=s.owf) (nx:=s.nx) (a':=a0) (vl:=lo.map a.eval) (vh:=hi.map a.eval) hnc he
  (fun z hz=>by
   cases lo with
   | none=>cases hz
   | some y=>injection hz with hz;subst hz;exact ⟨_,rfl,hr.ev y⟩)
  (fun hz=>by
   cases lo with
   | none=>rfl
   | some y=>cases hz)
  (fun z hz=>by
   cases hi with
   | none=>cases hz
   | some y=>injection hz with hz;subst hz;exact ⟨_,rfl,hr.ev y⟩)
  (fun hz=>by
   cases hi with
   | none=>rfl
   | some y=>cases hz) e1 e2 e3 w
 unfold Oper.wp
 have e5:(execOp a.eval ⟨dst,.slice t x lo hi none,ty,pos,af,gd⟩).run P w = .ok (.value (.slice (if cap=l.toNat then a0 else a0.map (·.add (l.toNat * sz))) (h'.toNat-l.toNat) (cap-l.toNat))) w:=by
  show ((do pure (.value (← Instr.sliceAt t (a.eval x) (lo.map a.eval) (hi.map a.eval) none)):Sem Next)).run P w=_
  rw [hu]
  simp only [Sem.run_bind,hrun,Result.andThen_ok,Sem.run_pure]
 rw [e5]
 exact h w0 G' _ w (hr'.pt dst hrv)
theorem TY (w0:Aq) (Z:Nat→Prop) (w:World) (sz:Nat) (T:TypeId) (a:Option Addr):Res w0 Z w [] (.slice a 0 0) ⟨.rows sz 0 [],some T,true⟩:=by
 refine ⟨by simp, ?_,fun _=>⟨?_,by simp⟩,fun T' hT => ?_⟩
 ·unfold AW;exact ⟨a,0,rfl,by simp,by simp,by simp,.inl rfl⟩
 ·unfold Ch;exact ⟨a,0,rfl,by simp,by simp,by simp,.inl ⟨rfl,rfl⟩⟩
 ·exact ⟨sz,0,[],[],rfl,Fg w _ _ _,by unfold An;rfl,by cases a <;> simp [Cm],by simp,fun _=>⟨[],by unfold Ao;exact ⟨rfl,rfl⟩,by simp,by simp⟩⟩
theorem FA {P:Program} {Q:QE} {c:Code} {st:List It} {s:AS} (b i:Nat) (T:TypeId) {cs:List AV} {sz:Nat} (h1:AO s.bx b=some cs) (h2:cs[i]? = some (.nl sz))
  (h:SW P (.code c :: st) ((s.mk' [] ⟨.rows sz 0 [],some T,true⟩).setb b (cs.set i (.sl s.nx))) Q):SW P (.code c :: st) s Q:=fun w0 G a w hr=>by
 obtain ⟨_,_,us0,T0,hB0,hrs0⟩:=hr.bx b cs h1
 obtain ⟨u0,hu0,hv0⟩:=RVs.get cs us0 i _ hrs0 h2
 unfold RV at hv0
 obtain ⟨a0,rfl⟩:=hv0
 obtain ⟨h3,h4⟩:=hr.own' (w':=w) (eats:=[]) hr.bel (Nat.le_refl _) (fun _ _ _=>rfl) (TY w0 _ w sz T a0) rfl (fun _ _ _=>by simp) (fun _ _ _ _ _ _=>by simp)
 have h1':AO (s.mk' [] ⟨.rows sz 0 [],some T,true⟩).bx b=some cs:=h1
 obtain ⟨q1,q2,us,T',hB,hrs⟩:=h3.bx b cs h1'
 have eus:us=us0:=by
  unfold Blk at hB hB0
  have hB1:w.heap[G.β b]? = some (.cells us.toArray T' (0,0)):=hB
  rw [hB0] at hB1
  injection hB1 with hB1
  injection hB1 with hB1 _ _
  exact (List.toArray_inj hB1).symm
 have hu:us[i]? = some (.slice a0 0 0):=by rw [eus];exact hu0
 have hrs':=RVs.set h4 cs us i hrs
 have e:us.set i (.slice a0 0 0)=us:=by
  obtain ⟨hlt,hx⟩:=List.getElem?_eq_some_iff.1 hu
  rw [← hx];exact List.set_getElem_self hlt
 rw [e] at hrs'
 exact h w0 _ a w (h3.setb h1' hrs' hB (La.refl _ _))
def fQ (P:Program) (fn:Func) (rs:List PD) (e:Exit) (s:AS):Prop:=(e = .ret∨e = .normal)∧aB7 P fn s rs
theorem DA {P:Program} {fn:Func} {rs:List PD}:∀ c s,¬ fQ P fn rs (.panic c) s:=fun c s h=>by rcases h.1 with h | h <;> cases h
theorem Af {P : Program} {f : FuncId} {fn : Func} {c : Code} {args rs : List PD} (hf : P.funcs[f]? = some fn) (hb : fn.body = some c) (hn : (fn.name == "runtime.NumGoroutine") = false) (hnt : args.length ≤ fn.ntmps)
  (h:Ct P 400 [.code c] ⟨fn.ntmps,Zx 0 args,[],[],0,[]⟩ (fQ P fn rs)):Con P f args rs :=
 aCa hf hb hn hnt (Dm (Aa 400 _ _ _ h))
theorem AD {ι:Type} {P:Program} {I:ι→Prop} {S:ι→AS} {μ:ι→Nat} {i:ι} {st:List It} {Q:QE}:∀ c s,¬ qLp P I S μ i st Q (.panic c) s:=fun c s h=>h
def qK (S':AS):QE:=fun e s=>e = .normal∧∃ ρ,Sub ρ S' s
theorem Wl {S':AS}:∀ c s,¬ qK S' (.panic c) s:=fun c s h=>by cases h.1
theorem Cs {P:Program} {id:Nat} {ops:Array Oper} {st:List It} {s:AS} {Q:QE} (S':AS) (ord:AN) (hm:P.follows .mixedOrders=true) (hc:(Region.noSelect ops && (Ae ord && !EF ord) && Ag ops ord ops.size (Array.replicate ops.size false))=true)
  (h:SW P [.dr ops.toList ord] s (qK S')) (hk:SW P st S' Q):SW P (.code (.region id ops true) :: st) s Q:=fun w0 G a w hr =>
 wp_mono ((Ac (st:=[]) ord hm Wl hc h) w0 G a w hr) fun e a' w' ⟨G',s',hr',hq⟩=>by
  have hq':qK S' e s':=by cases e <;> first | exact hq | (cases hq.1)
  obtain ⟨rfl,ρ,hs⟩:=hq'
  obtain ⟨G'',hr''⟩:=hr'.sub hs
  exact ⟨G'',S',hr'',hk⟩
def aBG:Nat→List AV→List (Nat × AV)
 | _,[]=>[]
 | i,a :: r=>(i,a) :: aBG (i+1) r
theorem IA {nx:Nat} {G:Gh} {w:World} {owf:Nat→Option Cb}:∀ (avs:List AV) (us:List Value) (i t:Nat) (v:AV),RVs G w owf nx avs us→AO (aBG i avs) t=some v→i≤t∧∃ u,us[t-i]? = some u∧RV G w owf nx v u
 | [],us,i,t,v,h,hl=>by cases hl
 | p :: ps,us,i,t,v,h,hl=>by
  unfold RVs at h
  obtain ⟨u,r,rfl,h1,h2⟩:=h
  unfold aBG at hl
  rw [Az] at hl
  split at hl
  ·rename_i e
   subst e
   injection hl with hl
   subst hl
   exact ⟨Nat.le_refl _,u,by simp,h1⟩
  ·obtain ⟨h3,u',h4,h5⟩:=IA ps r (i+1) t v h2 hl
   refine ⟨by omega,u', ?_,h5⟩
   have:t-i=(t-(i+1))+1:=by omega
   rw [this];simpa using h4
def AS.kl (s:AS) (l:List Nat):AS:={ s with ow:=Ur l s.ow }
theorem IC {s:AS} {l:List Nat} {o:Nat} {I:Cb} (h:(s.kl l).owf o=some I):s.owf o=some I∧o ∉ l:=by
 unfold AS.kl AS.owf at h
 simp only at h
 rw [Ij] at h
 split at h
 ·cases h
 ·rename_i hn;exact ⟨h,hn⟩
attribute [push_cast] aBG AS.kl fQ qLp Ct Eg isB bv gT gW gN gV isU Cp pkC pkA pkB Dd Eo
end Go.Proofs.YtaidalilfmjfgaaGreat
