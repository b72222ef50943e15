import Derived.Test.YtaidalilfmjfgaaGreatAIo
namespace Go.Proofs.YtaidalilfmjfgaaGreat
open Go.RowKit
set_option linter.unusedVariables false
set_option linter.unusedSimpArgs false
inductive It where
 | ops (all rest:List Oper)
 | ex (all:List Oper) (o:Oper) (rest:List Oper)
 | code (c:Code)
 | blk (id:Nat)
 | dr (all:List Oper) (ord:OrdT)
 | dx (all:List Oper) (o:Oper) (b:Bool) (r:OrdT)
 | dg (all:List Oper) (o:Oper) (b:Bool) (r:OrdT)
 | cut
abbrev QE:=Exit→AS→Prop
def XOps (P:Program) (all rest:List Oper) (s:AS) (Q:QE):Prop:=∀ w0 G a w,Rel w0 G s a w→wpList P all.toArray (Lft w0 Q) rest a w
def XEx (P:Program) (all:List Oper) (o:Oper) (rest:List Oper) (s:AS) (Q:QE):Prop:=∀ w0 G a w,Rel w0 G s a w→o.wp P a w (wpList P all.toArray (Lft w0 Q) rest) (Lft w0 Q)
def SW0 (w0:World0):World→Prop:=fun w'=>Bel w0.wr w0.toWorld w'
def XDr (P:Program) (all:List Oper) (ord:OrdT) (s:AS) (Q:QE):Prop:=∀ w0 G a w,Rel w0 G s a w→wpOrd P all.toArray (SW0 w0) (Lft w0 Q) ord a w
def XDx (P:Program) (all:List Oper) (o:Oper) (b:Bool) (r:OrdT) (s:AS) (Q:QE):Prop:=∀ w0 G a w,Rel w0 G s a w→match b with
 | true=>∃ v,YieldsIf P all.toArray (StayO o w) o v a∧wpOrd P all.toArray (SW0 w0) (Lft w0 Q) r (a.put o.dst v) w
 | false=>(Region.wanted o (yielded all.toArray a.tmps)=true→o.wp P a w (fun a' w'=>((lateOp o=false→Below w.heap.size w w')∧SW0 w0 w')∧wpOrd P all.toArray (SW0 w0) (Lft w0 Q) r a' w') (Lft w0 Q))∧(Region.wanted o (yielded all.toArray a.tmps)=false→wpOrd P all.toArray (SW0 w0) (Lft w0 Q) r (a.put o.dst undef) w)
def XDg (P:Program) (all:List Oper) (o:Oper) (b:Bool) (r:OrdT) (s:AS) (Q:QE):Prop:=∀ w0 G a w,Rel w0 G s a w→match b with
 | true=>∃ v,(∀ w',StayO o w w'→(execOp a.eval o).run P w' = .ok (.value v) w')∧wpOrd P all.toArray (SW0 w0) (Lft w0 Q) r (a.put o.dst v) w
 | false=>o.wp P a w (fun a' w'=>((lateOp o=false→Below w.heap.size w w')∧SW0 w0 w')∧wpOrd P all.toArray (SW0 w0) (Lft w0 Q) r a' w') (Lft w0 Q)
def SXe:List (Nat × (AS→Prop))→QE→QE
 | [],Q,e,s=>Q e s
 | (i,r) :: b,Q,.exit id,s=>if id=i then r s else SXe b Q (.exit id) s
 | _ :: b,Q,e,s=>SXe b Q e s
def SX (k:AS→Prop) (b:List (Nat × (AS→Prop))) (Q:QE):QE:=fun e s=>match e with
 | .normal=>k s
 | e=>SXe b Q e s
def SWb (P:Program):List It→QE→(List (Nat × (AS→Prop))) × (AS→Prop)
 | [],Q=>([],fun s=>Q .normal s)
 | .code c :: st,Q=>((SWb P st Q).1,fun s=>XW P c s (SX (SWb P st Q).2 (SWb P st Q).1 Q))
 | .ops all rest :: st,Q=>((SWb P st Q).1,fun s=>XOps P all rest s (SX (SWb P st Q).2 (SWb P st Q).1 Q))
 | .ex all o rest :: st,Q=>((SWb P st Q).1,fun s=>XEx P all o rest s (SX (SWb P st Q).2 (SWb P st Q).1 Q))
 | .dr all ord :: st,Q=>((SWb P st Q).1,fun s=>XDr P all ord s (SX (SWb P st Q).2 (SWb P st Q).1 Q))
 | .dx all o b r :: st,Q=>((SWb P st Q).1,fun s=>XDx P all o b r s (SX (SWb P st Q).2 (SWb P st Q).1 Q))
 | .dg all o b r :: st,Q=>((SWb P st Q).1,fun s=>XDg P all o b r s (SX (SWb P st Q).2 (SWb P st Q).1 Q))
 | .cut :: st,Q=>((SWb P st Q).1,(SWb P st Q).2)
 | .blk i :: st,Q=>((i,(SWb P st Q).2) :: (SWb P st Q).1,(SWb P st Q).2)
def SW (P:Program) (st:List It) (s:AS) (Q:QE):Prop:=(SWb P st Q).2 s
def popTo (id:Nat):List It→Option (List It)
 | []=>none
 | .blk i :: st=>if id=i then some st else popTo id st
 | _ :: st=>popTo id st
theorem SX_pop {P : Program} {Q : QE} {id : Nat} {s : AS} : ∀ {st st' : List It}, popTo id st = some st' → SW P st' s Q → SXe (SWb P st Q).1 Q (.exit id) s
  | [], st', h, _ => by cases h
  | .code c :: st, st', h, hs => SX_pop (st := st) h hs
  | .ops _ _ :: st, st', h, hs => SX_pop (st := st) h hs
  | .ex _ _ _ :: st, st', h, hs => SX_pop (st := st) h hs
  | .dr _ _ :: st, st', h, hs => SX_pop (st := st) h hs
  | .dx _ _ _ _ :: st, st', h, hs => SX_pop (st := st) h hs
  | .dg _ _ _ _ :: st, st', h, hs => SX_pop (st := st) h hs
  | .cut :: st, st', h, hs => SX_pop (st := st) h hs
  | .blk i :: st, st', h, hs => by
    unfold popTo at h
    show if id = i then (SWb P st Q).2 s else SXe (SWb P st Q).1 Q (.exit id) s
    split at h
    · rename_i e
      injection h with h
      subst h
      rw [if_pos e]; exact hs
    · rename_i e
      rw [if_neg e]
      exact SX_pop (st := st) h hs
theorem SX_out {P : Program} {Q : QE} {id : Nat} {s : AS} : ∀ {st : List It}, popTo id st = none → Q (.exit id) s → SXe (SWb P st Q).1 Q (.exit id) s
  | [], h, hq => hq
  | .code c :: st, h, hs => SX_out (st := st) h hs
  | .ops _ _ :: st, h, hs => SX_out (st := st) h hs
  | .ex _ _ _ :: st, h, hs => SX_out (st := st) h hs
  | .dr _ _ :: st, h, hs => SX_out (st := st) h hs
  | .dx _ _ _ _ :: st, h, hs => SX_out (st := st) h hs
  | .dg _ _ _ _ :: st, h, hs => SX_out (st := st) h hs
  | .cut :: st, h, hs => SX_out (st := st) h hs
  | .blk i :: st, h, hs => by
    unfold popTo at h
    show if id = i then (SWb P st Q).2 s else SXe (SWb P st Q).1 Q (.exit id) s
    split at h
    · cases h
    · rename_i e
      rw [if_neg e]
      exact SX_out (st := st) h hs
theorem SX_ret {Q:QE} {s:AS} (h:Q .ret s):∀ (b:List (Nat × (AS→Prop))),SXe b Q .ret s
 | []=>h
 | _ :: b=>SX_ret h b
theorem SX_nil {Q:QE} {e:Exit} {s:AS} (h:SX (fun s=>Q .normal s) [] Q e s):Q e s:=by
 cases e <;> exact h
theorem XW_of_SW {P:Program} {c:Code} {s:AS} {Q:QE} (h:SW P [.code c] s Q):XW P c s Q:=XW.mono h fun e s' h'=>SX_nil h'
def isB:AV→Bool | .b _=>true | _=>false
def bv:AV→Bool | .b x=>x | _=>false
def gT (all:List Oper) (o:Oper):Option Tmp:=match o.guard with | some (g,_)=>(all[g]?).bind (·.dst) | none=>none
def gW (o:Oper):Bool:=match o.guard with | some (_,w)=>w | none=>true
def gN (o:Oper):Bool:=match o.guard with | some _=>false | none=>true
def isPick:Op→Bool | .pick _ _ _=>true | _=>false
def pkC (s:AS):Op→AV | .pick c _ _=>s.ev c | _ => .un
def pkA (s:AS):Op→AV | .pick _ a _=>s.ev a | _ => .un
def pkB (s:AS):Op→AV | .pick _ _ b=>s.ev b | _ => .un
def isCall:Op→Bool | .call ⟨.value _,_,_⟩=>true | _=>false
def isU:AV→Bool | .tu []=>true | _=>false
def gV (all:List Oper) (o:Oper) (s:AS):AV:=(look s.tm ((gT all o).getD 0)).getD .un
def noOper : Oper := ⟨none, .alloc 0, 0, "", #[], none⟩
def isCutO (s : AS) : Op → Bool
  | .slice _ x _ _ none => match s.ev x with
    | .sl o => match s.owf o with
      | some ⟨_, some _, _⟩ => true
      | _ => false
    | _ => false
  | .binOp _ _ x (.const (.slice none 0 0)) _ => match s.ev x with
    | .br _ => true
    | _ => false
  | _ => false
def xRun (P : Program) : Nat → List It → AS → QE → Prop
  | 0, _, _, _ => False
  | n + 1, [], s, Q => Q .normal s
  | n + 1, .blk _ :: st, s, Q => xRun P n st s Q
  | n + 1, .code .skip :: st, s, Q => xRun P n st s Q
  | n + 1, .code .ret :: st, s, Q => Q .ret s
  | n + 1, .code (.seq a b) :: st, s, Q => xRun P n (.code a :: .code b :: st) s Q
  | n + 1, .code (.cond c a b) :: st, s, Q => isB (s.ev c) = true ∧ (if bv (s.ev c) = true then xRun P n (.code a :: st) s Q else xRun P n (.code b :: st) s Q)
  | n + 1, .code (.block id c) :: st, s, Q => xRun P n (.code c :: .blk id :: st) s Q
  | n + 1, .code (.exit id) :: st, s, Q => if (popTo id st).isSome = true then xRun P n ((popTo id st).getD []) s Q else Q (.exit id) s
  | n + 1, .code (.loop c) :: st, s, Q => SW P (.code (.loop c) :: st) s Q
  | n + 1, .code (.region id ops d) :: st, s, Q => if d = true then SW P (.code (.region id ops true) :: st) s Q else xRun P n (.ops ops.toList ops.toList :: st) s Q
  | n + 1, .code _ :: st, s, Q => False
  | n + 1, .ops all [] :: st, s, Q => xRun P n st s Q
  | n + 1, .ops all (o :: rest) :: st, s, Q => if gN o = true then xRun P n (.ex all o rest :: st) s Q
      else if isU (gV all o s) = true then (gT all o).isSome = true ∧ xRun P n (.ops all rest :: st) (s.pt o.dst (.tu [])) Q
      else ((gT all o).isSome = true ∧ isB (gV all o s) = true) ∧
        (if bv (gV all o s) = gW o then xRun P n (.ex all o rest :: st) (s.kn ((gT all o).getD 0) (gW o)) Q
         else xRun P n (.ops all rest :: st) ((s.kn ((gT all o).getD 0) (!gW o)).pt o.dst (.tu [])) Q)
  | n + 1, .ex all o rest :: st, s, Q =>
      if isPick o.op = true then isB (pkC s o.op) = true ∧ (if bv (pkC s o.op) = true then xRun P n (.ops all rest :: st) (s.pt o.dst (pkA s o.op)) Q else xRun P n (.ops all rest :: st) (s.pt o.dst (pkB s o.op)) Q)
      else if isCall o.op = true then SW P (.ex all o rest :: st) s Q
      else if isCutO s o.op = true then SW P (.ex all o rest :: st) s Q
      else (vE P s o.op).1.1 ∧ xRun P n (.ops all rest :: st) ((vE P s o.op).2.pt o.dst (vE P s o.op).1.2) Q
  | n + 1, .cut :: st, s, Q => SW P (.cut :: st) s Q
  | n + 1, .dr all .nil :: st, s, Q => xRun P n st s Q
  | n + 1, .dr all (.cons i b r) :: st, s, Q => (all[i]?).isSome = true ∧ xRun P n (.dx all ((all[i]?).getD noOper) b r :: st) s Q
  | n + 1, .dr all (.fork l) :: st, s, Q => xRun P n (.dr all l :: st) s Q
  | n + 1, .dr all (.alt i r l) :: st, s, Q => ((all[i]?).isSome = true ∧ xRun P n (.dx all ((all[i]?).getD noOper) false r :: st) s Q) ∧ xRun P n (.dr all l :: st) s Q
  | n + 1, .dr all .last :: st, s, Q => True
  | n + 1, .dx all o b r :: st, s, Q => if gN o = true then xRun P n (.dg all o b r :: st) s Q
      else if isU (gV all o s) = true then (gT all o).isSome = true ∧ xRun P n (.dr all r :: st) (s.pt o.dst (.tu [])) Q
      else ((gT all o).isSome = true ∧ isB (gV all o s) = true) ∧
        (if bv (gV all o s) = gW o then xRun P n (.dg all o b r :: st) (s.kn ((gT all o).getD 0) (gW o)) Q
         else xRun P n (.dr all r :: st) ((s.kn ((gT all o).getD 0) (!gW o)).pt o.dst (.tu [])) Q)
  | n + 1, .dg all o true r :: st, s, Q => if isPick o.op = true then isB (pkC s o.op) = true ∧ (if bv (pkC s o.op) = true then xRun P n (.dr all r :: st) (s.pt o.dst (pkA s o.op)) Q else xRun P n (.dr all r :: st) (s.pt o.dst (pkB s o.op)) Q)
      else (vP P s o.op).1 ∧ xRun P n (.dr all r :: st) (s.pt o.dst (vP P s o.op).2) Q
  | n + 1, .dg all o false r :: st, s, Q => if isCall o.op = true then SW P (.dg all o false r :: st) s Q
      else if isPick o.op = true then isB (pkC s o.op) = true ∧ (if bv (pkC s o.op) = true then xRun P n (.dr all r :: st) (s.pt o.dst (pkA s o.op)) Q else xRun P n (.dr all r :: st) (s.pt o.dst (pkB s o.op)) Q)
      else (vE P s o.op).1.1 ∧ xRun P n (.dr all r :: st) ((vE P s o.op).2.pt o.dst (vE P s o.op).1.2) Q
theorem bv_ok {v:AV} (h:isB v=true):v = .b (bv v):=by
 cases v <;> first | rfl | cases h
theorem xex_of {P:Program} {all rest:List Oper} {o:Oper} {s:AS} {Q:QE} (h:xO P s o fun s'=>XOps P all rest s' Q):XEx P all o rest s Q:=fun w0 G a w hr =>
 Oper.wp_mono (fun a' w' ⟨_,G',s',h1,h2⟩=>h2 w0 G' a' w' h1) (xO_ok hr h)
theorem xops_ex {P:Program} {all rest:List Oper} {o:Oper} {s:AS} {Q:QE} (hg:gN o=true) (h:XEx P all o rest s Q):XOps P all (o :: rest) s Q:=fun w0 G a w hr=>by
 have hn:o.guard=none:=by
  unfold gN at hg
  split at hg
  ·cases hg
  ·assumption
 unfold wpList
 rw [if_pos (wanted_none hn _)]
 exact .inl (h w0 G a w hr)
theorem gN_ok {o:Oper} (h:gN o=true):o.guard=none:=by
 unfold gN at h
 split at h
 ·cases h
 ·assumption
theorem want_gd {w0:World0} {G:Gh} {s:AS} {a:Act} {w:World} (hr:Rel w0 G s a w) {all:List Oper} {o:Oper} {t:Tmp} (hg:gN o=false) (ht:gT all o=some t) {x:Bool} (hx:look s.tm t=some (.b x)):Region.wanted o (yielded all.toArray a.tmps)=decide (x=gW o):=by
 unfold gN at hg
 split at hg
 ·rename_i q hgd
  obtain ⟨g,want⟩:=q
  unfold gT at ht
  rw [hgd] at ht
  simp only at ht
  have hW:gW o=want:=by unfold gW;rw [hgd]
  rw [hW]
  obtain ⟨u,hu,hrv⟩:=hr.tm t _ hx
  unfold RV at hrv
  subst hrv
  have hy:yielded all.toArray a.tmps g=some x:=by
   unfold yielded
   have:(all.toArray[g]?).bind (·.dst)=some t:=by simpa using ht
   rw [this];simp [hu]
  simp only [Region.wanted,hgd,hy]
  cases x <;> cases want <;> rfl
 ·cases hg
theorem want_un {w0:World0} {G:Gh} {s:AS} {a:Act} {w:World} (hr:Rel w0 G s a w) {all:List Oper} {o:Oper} {t:Tmp} (hg:gN o=false) (ht:gT all o=some t) (hx:look s.tm t=some (.tu [])):Region.wanted o (yielded all.toArray a.tmps)=false:=by
 unfold gN at hg
 split at hg
 ·rename_i q hgd
  obtain ⟨g,want⟩:=q
  unfold gT at ht
  rw [hgd] at ht
  simp only at ht
  obtain ⟨u,hu,hrv⟩:=hr.tm t _ hx
  unfold RV at hrv
  obtain ⟨us,rfl,h0⟩:=hrv
  unfold RVs at h0
  subst h0
  have hy:yielded all.toArray a.tmps g=none:=by
   unfold yielded
   have:(all.toArray[g]?).bind (·.dst)=some t:=by simpa using ht
   rw [this];simp [hu]
  simp only [Region.wanted,hgd,hy]
  cases want <;> rfl
 ·cases hg
theorem b_ne {x y:Bool} (h:¬ x=y):x = !y:=by cases x <;> cases y <;> first | rfl | exact absurd rfl h
theorem rv_undef {nx:Nat} {G:Gh} {w:World} {owf:Nat→Option OwnI}:RV G w owf nx (.tu []) undef:=by unfold RV;exact ⟨[],rfl,by unfold RVs;rfl⟩
theorem xops_gd {P:Program} {all rest:List Oper} {o:Oper} {s:AS} {Q:QE} {t:Tmp} (hg:gN o=false) (ht:gT all o=some t) {x:Bool} (hx:look s.tm t=some (.b x)) (h1:x=gW o→XEx P all o rest (s.kn t (gW o)) Q) (h2:x = !gW o→XOps P all rest ((s.kn t (!gW o)).pt o.dst (.tu [])) Q) :
  XOps P all (o :: rest) s Q:=fun w0 G a w hr=>by
 unfold wpList
 rw [want_gd hr hg ht hx]
 by_cases hxw:x=gW o
 ·rw [if_pos (by simp [hxw])]
  exact .inl (h1 hxw w0 G a w (hr.kn (hxw ▸ hx)))
 ·rw [if_neg (by simp [hxw])]
  have hx2:x = !gW o:=b_ne hxw
  exact h2 hx2 w0 G _ w ((hr.kn (hx2 ▸ hx)).pt o.dst rv_undef)
theorem xops_un {P:Program} {all rest:List Oper} {o:Oper} {s:AS} {Q:QE} {t:Tmp} (hg:gN o=false) (ht:gT all o=some t) (hx:look s.tm t=some (.tu [])) (h2:XOps P all rest (s.pt o.dst (.tu [])) Q) :
  XOps P all (o :: rest) s Q:=fun w0 G a w hr=>by
 unfold wpList
 rw [want_un hr hg ht hx]
 exact h2 w0 G _ w (hr.pt o.dst rv_undef)
theorem dx_of {P:Program} {all:List Oper} {o:Oper} {b:Bool} {r:OrdT} {s:AS} {Q:QE} (hd:∀ w0 G a w,Rel w0 G s a w→Region.wanted o (yielded all.toArray a.tmps)=true) (h:XDg P all o b r s Q):XDx P all o b r s Q:=fun w0 G a w hr=>by
 have hw:=hd w0 G a w hr
 cases b with
 | true=>obtain ⟨v,h1,h2⟩:=h w0 G a w hr;exact ⟨v,.inl ⟨hw,h1⟩,h2⟩
 | false=>exact ⟨fun _=>h w0 G a w hr,fun hn=>(by rw [hw] at hn;cases hn)⟩
theorem dx_skip {P:Program} {all:List Oper} {o:Oper} {b:Bool} {r:OrdT} {s:AS} {Q:QE} (hd:∀ w0 G a w,Rel w0 G s a w→Region.wanted o (yielded all.toArray a.tmps)=false) (h:XDr P all r (s.pt o.dst (.tu [])) Q):XDx P all o b r s Q:=fun w0 G a w hr=>by
 have hw:=hd w0 G a w hr
 have h2:=h w0 G _ w (hr.pt o.dst rv_undef)
 cases b with
 | true=>exact ⟨undef,.inr ⟨hw,rfl⟩,h2⟩
 | false=>exact ⟨fun ht=>(by rw [hw] at ht;cases ht),fun _=>h2⟩
theorem dx_gd {P:Program} {all:List Oper} {o:Oper} {b:Bool} {r:OrdT} {s:AS} {Q:QE} {t:Tmp} (hg:gN o=false) (ht:gT all o=some t) {x:Bool} (hx:look s.tm t=some (.b x)) (h1:x=gW o→XDg P all o b r (s.kn t (gW o)) Q) (h2:x = !gW o→XDr P all r ((s.kn t (!gW o)).pt o.dst (.tu [])) Q):XDx P all o b r s Q:=by
 by_cases hxw:x=gW o
 ·refine dx_of (fun w0 G a w hr=>by rw [want_gd hr hg ht hx,decide_eq_true hxw]) fun w0 G a w hr=>h1 hxw w0 G a w (hr.kn (hxw ▸ hx))
 ·have hx2:x = !gW o:=b_ne hxw
  intro w0 G a w hr
  have hw:Region.wanted o (yielded all.toArray a.tmps)=false:=by rw [want_gd hr hg ht hx,decide_eq_false hxw]
  have h3:=h2 hx2 w0 G _ w ((hr.kn (hx2 ▸ hx)).pt o.dst rv_undef)
  cases b with
  | true=>exact ⟨undef,.inr ⟨hw,rfl⟩,h3⟩
  | false=>exact ⟨fun ht=>(by rw [hw] at ht;cases ht),fun _=>h3⟩
theorem xP_all {P : Program} {w0 : World0} {G : Gh} {s : AS} {a : Act} {w : World} (h : Rel w0 G s a w) (hq : Flq G s) {o : Oper} {k : AV → Prop} (hk : xP P s o.op k) :
    ∃ av v, k av ∧ RV G w s.owf s.nx av v ∧ ∀ w', StayO o w w' → (execOp a.eval o).run P w' = .ok (.value v) w' := by
  cases hp : pureO o with
  | false =>
    obtain ⟨av, v, h1, h2, h3⟩ := xP_ok h hq hk
    exact ⟨av, v, h1, h2, fun w' hw => h3 w' (hw.resolve_left (by rw [hp]; simp))⟩
  | true =>
    obtain ⟨dst, op, type, pos, after, guard⟩ := o
    cases op <;> first | (cases hp; done) | skip
    case move x => exact ⟨_, _, hk, h.ev x, fun w' _ => rfl⟩
    case nilCheck x =>
      simp only [xP] at hk
      have hv := h.ev x
      split at hk
      · rename_i b o' e
        rw [e] at hv
        refine ⟨_, _, hk, hv, fun w' _ => ?_⟩
        unfold RV at hv
        simp only [execOp, hv.2]
        rfl
      · exact hk.elim
    case fieldAddr t x f =>
      obtain ⟨av, v, h1, h2, h3⟩ := xFld_ok (h.ev x) hk
      refine ⟨av, v, h1, h2, fun w' _ => ?_⟩
      simp only [execOp, Sem.run_bind, h3 w', Result.andThen_ok, Sem.run_pure]
theorem dg_pure {P:Program} {all:List Oper} {o:Oper} {r:OrdT} {s:AS} {Q:QE} (h1:(vP P s o.op).1) (h2:XDr P all r (s.pt o.dst (vP P s o.op).2) Q):XDg P all o true r s Q:=fun w0 G a w hr=>by
 obtain ⟨G,hr,hq⟩:=hr.flq
 obtain ⟨av,v,e,h3,h4⟩:=xP_all (k:=fun av=>av=(vP P s o.op).2) hr hq (vP_x h1 rfl)
 subst e
 exact ⟨v,fun w' hb=>h4 w' hb,h2 w0 G _ w (hr.pt o.dst h3)⟩
theorem dg_eff {P:Program} {all:List Oper} {o:Oper} {r:OrdT} {s:AS} {Q:QE} (h:xO P s o fun s'=>XDr P all r s' Q):XDg P all o false r s Q:=fun w0 G a w hr =>
 Oper.wp_mono (fun a' w' ⟨hb,G',s',h1,h2⟩=>⟨⟨hb,h1.bel⟩,h2 w0 G' a' w' h1⟩) (xO_ok hr h)
theorem dg_pick {P : Program} {all : List Oper} {o : Oper} {b : Bool} {r : OrdT} {s : AS} {Q : QE} (hp : isPick o.op = true) (h1 : isB (pkC s o.op) = true) (h2 : bv (pkC s o.op) = true → XDr P all r (s.pt o.dst (pkA s o.op)) Q) (h3 : bv (pkC s o.op) = false → XDr P all r (s.pt o.dst (pkB s o.op)) Q) : XDg P all o b r s Q := by
  obtain ⟨dst, op, type, pos, after, guard⟩ := o
  cases op <;> simp only [isPick] at hp <;> first | (cases hp; done) | skip
  rename_i c x y
  simp only [pkC, pkA, pkB] at h1 h2 h3
  have hv := bv_ok h1
  cases b with
  | true =>
    intro w0 G a w hr
    obtain ⟨G, hr, hq⟩ := hr.flq
    obtain ⟨av, v, e, h4, h5⟩ := xP_ok (o := ⟨dst, .pick c x y, type, pos, after, guard⟩) (k := fun av => (bv (s.ev c) = true → av = s.ev x) ∧ (bv (s.ev c) = false → av = s.ev y)) hr hq (by
      simp only [xP]
      rw [hv]
      exact ⟨fun hx => ⟨fun _ => rfl, fun hn => (by simp only [bv] at hn hx; rw [hx] at hn; cases hn)⟩, fun hx => ⟨fun hn => (by simp only [bv] at hn hx; rw [hx] at hn; cases hn), fun _ => rfl⟩⟩)
    refine ⟨v, fun w' hb => h5 w' (hb.resolve_left (by simp [pureO])), ?_⟩
    cases hb : bv (s.ev c) with
    | true => have := e.1 hb; subst this; exact h2 hb w0 G _ w (hr.pt dst h4)
    | false => have := e.2 hb; subst this; exact h3 hb w0 G _ w (hr.pt dst h4)
  | false =>
    refine dg_eff ?_
    simp only [xO, xP]
    rw [hv]
    exact ⟨fun hx => h2 hx, fun hx => h3 hx⟩
theorem dr_dx {P : Program} {all : List Oper} {i : Nat} {b : Bool} {r : OrdT} {s : AS} {Q : QE} {o : Oper} (ho : all[i]? = some o) (h : XDx P all o b r s Q) : XDr P all (.cons i b r) s Q := fun w0 G a w hr => by
  have ho' : all.toArray[i]? = some o := by simpa using ho
  cases b with
  | true =>
    obtain ⟨v, h1, h2⟩ := h w0 G a w hr
    exact ⟨o, v, ho', h1, h2⟩
  | false =>
    obtain ⟨h1, h2⟩ := h w0 G a w hr
    have hl : lateAt all.toArray i = lateOp o := by unfold lateAt; rw [ho']
    unfold wpOrd wpOp
    rw [ho']
    simp only [hl]
    cases hw : Region.wanted o (yielded all.toArray a.tmps) with
    | true => simp only [if_true]; exact .inl (h1 hw)
    | false => simp only [Bool.false_eq_true, if_false]; exact ⟨⟨fun _ => Below.refl _ _, hr.bel⟩, h2 hw⟩
theorem sw_run {P : Program} : ∀ (n : Nat) (st : List It) (s : AS) (Q : QE), xRun P n st s Q → SW P st s Q
  | 0, st, s, Q, h => by unfold xRun at h; exact h.elim
  | n + 1, [], s, Q, h => h
  | n + 1, .blk i :: st, s, Q, h => sw_run n st s Q h
  | n + 1, .ops all [] :: st, s, Q, h => fun w0 G a w hr => wpList_nil ⟨G, s, hr, sw_run n st s Q h⟩
  | n + 1, .ops all (o :: rest) :: st, s, Q, h => by
    unfold xRun at h
    split at h
    · rename_i hg
      exact xops_ex hg (sw_run n (.ex all o rest :: st) s Q h)
    · rename_i hg
      split at h
      · rename_i hu
        obtain ⟨h1, h2⟩ := h
        obtain ⟨t, ht⟩ := Option.isSome_iff_exists.1 h1
        unfold gV at hu
        rw [ht] at hu
        simp only [Option.getD_some] at hu
        cases hl : look s.tm t with
        | none => rw [hl] at hu; cases hu
        | some v =>
          rw [hl] at hu
          simp only [Option.getD_some] at hu
          have hv : v = .tu [] := by
            unfold isU at hu
            split at hu
            · rfl
            · cases hu
          exact xops_un (by simpa using hg) ht (hv ▸ hl) (sw_run n (.ops all rest :: st) _ Q h2)
      · obtain ⟨⟨h1, h2⟩, h3⟩ := h
        obtain ⟨t, ht⟩ := Option.isSome_iff_exists.1 h1
        unfold gV at h2 h3
        rw [ht] at h2 h3
        simp only [Option.getD_some] at h2 h3
        cases hl : look s.tm t with
        | none => rw [hl] at h2; cases h2
        | some v =>
          rw [hl] at h2 h3
          simp only [Option.getD_some] at h2 h3
          have hv := bv_ok h2
          refine xops_gd (by simpa using hg) ht (hv ▸ hl) (fun hx => ?_) (fun hx => ?_)
          · rw [if_pos hx] at h3; exact sw_run n (.ex all o rest :: st) _ Q h3
          · rw [if_neg (by rw [hx]; cases gW o <;> simp)] at h3; exact sw_run n (.ops all rest :: st) _ Q h3
  | n + 1, .ex all o rest :: st, s, Q, h => by
    unfold xRun at h
    split at h
    · rename_i hp
      obtain ⟨h1, h2⟩ := h
      refine xex_of ?_
      obtain ⟨dst, op, type, pos, after, guard⟩ := o
      cases op <;> simp only [isPick] at hp <;> first | (cases hp; done) | skip
      rename_i c x y
      simp only [pkC, pkA, pkB] at h1 h2
      have hv := bv_ok h1
      simp only [xO, xP]
      rw [hv]
      refine ⟨fun hx => ?_, fun hx => ?_⟩
      · have h3 := h2
        simp only [hx, if_true] at h3; exact sw_run n (.ops all rest :: st) _ Q h3
      · have h3 := h2
        simp only [hx, Bool.false_eq_true, if_false] at h3; exact sw_run n (.ops all rest :: st) _ Q h3
    · split at h
      · exact h
      · split at h
        · exact h
        · exact xex_of (vE_x h.1 (sw_run n (.ops all rest :: st) _ Q h.2))
  | n + 1, .cut :: st, s, Q, h => h
  | n + 1, .dr all .nil :: st, s, Q, h => fun w0 G a w hr => ⟨G, s, hr, sw_run n st s Q h⟩
  | n + 1, .dr all (.cons i b r) :: st, s, Q, h => by
    unfold xRun at h
    obtain ⟨o, ho⟩ := Option.isSome_iff_exists.1 h.1
    rw [ho] at h
    exact dr_dx ho (sw_run n (.dx all o b r :: st) s Q h.2)
  | n + 1, .dr all (.fork l) :: st, s, Q, h => fun w0 G a w hr => sw_run n (.dr all l :: st) s Q h w0 G a w hr
  | n + 1, .dr all (.alt i r l) :: st, s, Q, h => by
    unfold xRun at h
    obtain ⟨o, ho⟩ := Option.isSome_iff_exists.1 h.1.1
    rw [ho] at h
    have h0 : XDx P all o false r s (SX (SWb P st Q).2 (SWb P st Q).1 Q) := sw_run n (.dx all o false r :: st) s Q h.1.2
    have h1 := dr_dx ho h0
    have h2 := sw_run n (.dr all l :: st) s Q h.2
    exact fun w0 G a w hr => ⟨h1 w0 G a w hr, h2 w0 G a w hr⟩
  | n + 1, .dr all .last :: st, s, Q, h => fun w0 G a w hr => trivial
  | n + 1, .dx all o b r :: st, s, Q, h => by
    unfold xRun at h
    split at h
    · rename_i hg
      exact dx_of (fun _ _ _ _ _ => wanted_none (gN_ok hg) _) (sw_run n (.dg all o b r :: st) s Q h)
    · rename_i hg
      split at h
      · rename_i hu
        obtain ⟨h1, h2⟩ := h
        obtain ⟨t, ht⟩ := Option.isSome_iff_exists.1 h1
        unfold gV at hu
        rw [ht] at hu
        simp only [Option.getD_some] at hu
        cases hl : look s.tm t with
        | none => rw [hl] at hu; cases hu
        | some v =>
          rw [hl] at hu
          simp only [Option.getD_some] at hu
          have hv : v = .tu [] := by
            unfold isU at hu
            split at hu
            · rfl
            · cases hu
          exact dx_skip (fun _ _ _ _ hr => want_un hr (by simpa using hg) ht (hv ▸ hl)) (sw_run n (.dr all r :: st) _ Q h2)
      · obtain ⟨⟨h1, h2⟩, h3⟩ := h
        obtain ⟨t, ht⟩ := Option.isSome_iff_exists.1 h1
        unfold gV at h2 h3
        rw [ht] at h2 h3
        simp only [Option.getD_some] at h2 h3
        cases hl : look s.tm t with
        | none => rw [hl] at h2; cases h2
        | some v =>
          rw [hl] at h2 h3
          simp only [Option.getD_some] at h2 h3
          have hv := bv_ok h2
          refine dx_gd (by simpa using hg) ht (hv ▸ hl) (fun hx => ?_) (fun hx => ?_)
          · rw [if_pos hx] at h3; exact sw_run n (.dg all o b r :: st) _ Q h3
          · rw [if_neg (by rw [hx]; cases gW o <;> simp)] at h3; exact sw_run n (.dr all r :: st) _ Q h3
  | n + 1, .dg all o true r :: st, s, Q, h => by
    unfold xRun at h
    split at h
    · rename_i hp
      obtain ⟨h1, h2⟩ := h
      show XDg P all o true r s (SX (SWb P st Q).2 (SWb P st Q).1 Q)
      refine dg_pick hp h1 (fun hx => ?_) (fun hx => ?_)
      · rw [if_pos hx] at h2; exact sw_run n (.dr all r :: st) _ Q h2
      · rw [if_neg (by rw [hx]; simp)] at h2; exact sw_run n (.dr all r :: st) _ Q h2
    · exact dg_pure h.1 (sw_run n (.dr all r :: st) _ Q h.2)
  | n + 1, .dg all o false r :: st, s, Q, h => by
    unfold xRun at h
    split at h
    · exact h
    · split at h
      · rename_i hp
        obtain ⟨h1, h2⟩ := h
        show XDg P all o false r s (SX (SWb P st Q).2 (SWb P st Q).1 Q)
        refine dg_pick hp h1 (fun hx => ?_) (fun hx => ?_)
        · rw [if_pos hx] at h2; exact sw_run n (.dr all r :: st) _ Q h2
        · rw [if_neg (by rw [hx]; simp)] at h2; exact sw_run n (.dr all r :: st) _ Q h2
      · exact dg_eff (vE_x h.1 (sw_run n (.dr all r :: st) _ Q h.2))
  | n + 1, .code c :: st, s, Q, h => by
    show XW P c s _
    cases c with
    | skip => exact fun w0 G a w hr => wp_skip ⟨G, s, hr, sw_run n st s Q h⟩
    | ret => exact fun w0 G a w hr => wp_ret ⟨G, s, hr, SX_ret h _⟩
    | seq x y =>
      have := sw_run n (.code x :: .code y :: st) s Q h
      intro w0 G a w hr
      refine wp_seq (wp_mono (this w0 G a w hr) fun e a' w' ⟨G', s', hr', hq⟩ => ?_)
      cases e <;> first | exact hq w0 G' a' w' hr' | exact ⟨G', s', hr', hq⟩
    | cond c x y =>
      unfold xRun at h
      obtain ⟨h1, h2⟩ := h
      have hv := bv_ok h1
      intro w0 G a w hr
      have hc := hr.ev c
      rw [hv] at hc
      unfold RV at hc
      refine wp_cond_split hc (fun ht => ?_) (fun ht => ?_)
      · rw [if_pos ht] at h2; exact sw_run n (.code x :: st) s Q h2 w0 G a w hr
      · rw [if_neg (by rw [ht]; simp)] at h2; exact sw_run n (.code y :: st) s Q h2 w0 G a w hr
    | block id x =>
      have := sw_run n (.code x :: .blk id :: st) s Q h
      intro w0 G a w hr
      refine wp_block (wp_mono (this w0 G a w hr) fun e a' w' ⟨G', s', hr', hq⟩ => ?_)
      cases e
      case exit id2 _x =>
        have hq' : if id2 = id then (SWb P st Q).2 s' else SXe (SWb P st Q).1 Q (.exit id2) s' := hq
        unfold Exit.inBlock
        by_cases hid : id2 = id
        · simp only [hid, if_true] at hq' ⊢; exact ⟨G', s', hr', hq'⟩
        · simp only [hid, if_false] at hq' ⊢; exact ⟨G', s', hr', hq'⟩
      all_goals exact ⟨G', s', hr', hq⟩
    | exit id =>
      unfold xRun at h
      cases hst : popTo id st with
      | none =>
        rw [hst] at h
        exact fun w0 G a w hr => wp_exit ⟨G, s, hr, SX_out hst h⟩
      | some st' =>
        rw [hst] at h
        exact fun w0 G a w hr => wp_exit ⟨G, s, hr, SX_pop hst (sw_run n st' s Q h)⟩
    | loop x => exact h
    | region id ops d =>
      unfold xRun at h
      split at h
      · rename_i hd; subst hd; exact h
      · rename_i hd
        have hd' : d = false := by cases d <;> simp_all
        subst hd'
        have := sw_run n (.ops ops.toList ops.toList :: st) s Q h
        exact fun w0 G a w hr => wp_region_list (this w0 G a w hr)
    | rangeFunc _ _ _ _ => unfold xRun at h; exact h.elim
    | scope _ => unfold xRun at h; exact h.elim
    | label _ => unfold xRun at h; exact h.elim
    | goto _ => unfold xRun at h; exact h.elim
    | refuse _ => unfold xRun at h; exact h.elim
theorem SXe_panic {Q:QE} {c:List PanicEntry} {s:AS} (h:¬ Q (.panic c) s):∀ (b:List (Nat × (AS→Prop))),¬ SXe b Q (.panic c) s
 | []=>h
 | _ :: b=>SXe_panic h b
theorem sw_drawn {P:Program} {id:Nat} {ops:Array Oper} {st:List It} {s:AS} {Q:QE} (ord:OrdT) (hm:P.follows .mixedOrders=true) (hQ:∀ c s,¬ Q (.panic c) s) (hc:(Region.noSelect ops && (wellOrd ord && !isAlt ord) && chkOrd ops ord ops.size (Array.replicate ops.size false))=true)
  (h:SW P (.dr ops.toList ord :: st) s Q):SW P (.code (.region id ops true) :: st) s Q:=fun w0 G a w hr=>by
 simp only [Bool.and_eq_true] at hc
 have hd:=hr.later (Below.refl _ _).drew
 refine wp_drawn hm hc.1.1 (fun c a w ⟨_,s,_,hq⟩=>SXe_panic (hQ c s) _ hq) (by rw [Bool.and_eq_true];exact hc.1.2) hc.2 (S:=SW0 w0) hd.bel ?_
 exact h w0 G a w.drew hd
mutual
def aA (s : AS) : AV → PD → Prop
  | .ag cs, .ag ds => aDs s cs ds
  | .y n, .byt m => n = m
  | .fn f c, .fn g ps => f = g ∧ aAs s c ps
  | .rp cs, .rf ps => aAs s cs ps
  | .bx b off, .rf ps => off = 0 ∧ match look s.bx b with
    | some cs => aAs s cs ps
    | none => False
  | a, .one d => aD s a d
  | _, _ => False
def aAs (s:AS):List AV→List PD→Prop
 | [],[]=>True
 | a :: r,p :: ps=>aA s a p∧aAs s r ps
 | _,_=>False
end
mutual
theorem aA_ok {s : AS} : ∀ {a : AV} {p : PD}, aA s a p → AArg s a p
  | .fn f c, .fn g ps, h => by
    unfold aA at h
    obtain ⟨rfl, h⟩ := h
    exact .fn (aAs_ok h)
  | .i _, .fn _ _, h => by unfold aA at h; exact h.elim
  | .b _, .fn _ _, h => by unfold aA at h; exact h.elim
  | .s _, .fn _ _, h => by unfold aA at h; exact h.elim
  | .y _, .fn _ _, h => by unfold aA at h; exact h.elim
  | .nl _, .fn _ _, h => by unfold aA at h; exact h.elim
  | .x _, .fn _ _, h => by unfold aA at h; exact h.elim
  | .sl _, .fn _ _, h => by unfold aA at h; exact h.elim
  | .sp _ _, .fn _ _, h => by unfold aA at h; exact h.elim
  | .br _, .fn _ _, h => by unfold aA at h; exact h.elim
  | .bx _ _, .fn _ _, h => by unfold aA at h; exact h.elim
  | .eb _ _ _, .fn _ _, h => by unfold aA at h; exact h.elim
  | .eo _ _ _, .fn _ _, h => by unfold aA at h; exact h.elim
  | .ag _, .fn _ _, h => by unfold aA at h; exact h.elim
  | .tu _, .fn _ _, h => by unfold aA at h; exact h.elim
  | .rp _, .fn _ _, h => by unfold aA at h; exact h.elim
  | .un, .fn _ _, h => by unfold aA at h; exact h.elim
  | .rp cs, .rf ps, h => by unfold aA at h; exact .rp (aAs_ok h)
  | .bx b off, .rf ps, h => by
    unfold aA at h
    obtain ⟨rfl, h⟩ := h
    cases hl : look s.bx b with
    | none => rw [hl] at h; exact h.elim
    | some cs => rw [hl] at h; exact .rf hl (aAs_ok h)
  | .i _, .rf _, h => by unfold aA at h; exact h.elim
  | .b _, .rf _, h => by unfold aA at h; exact h.elim
  | .s _, .rf _, h => by unfold aA at h; exact h.elim
  | .y _, .rf _, h => by unfold aA at h; exact h.elim
  | .nl _, .rf _, h => by unfold aA at h; exact h.elim
  | .x _, .rf _, h => by unfold aA at h; exact h.elim
  | .sl _, .rf _, h => by unfold aA at h; exact h.elim
  | .sp _ _, .rf _, h => by unfold aA at h; exact h.elim
  | .br _, .rf _, h => by unfold aA at h; exact h.elim
  | .eb _ _ _, .rf _, h => by unfold aA at h; exact h.elim
  | .eo _ _ _, .rf _, h => by unfold aA at h; exact h.elim
  | .fn _ _, .rf _, h => by unfold aA at h; exact h.elim
  | .ag _, .rf _, h => by unfold aA at h; exact h.elim
  | .tu _, .rf _, h => by unfold aA at h; exact h.elim
  | .un, .rf _, h => by unfold aA at h; exact h.elim
  | a, .one d, h => by cases a <;> (unfold aA at h; exact .one h)
  | a, .ag ds, h => by cases a <;> unfold aA at h <;> first | exact h.elim | exact .ag h
  | a, .byt m, h => by cases a <;> unfold aA at h <;> first | exact h.elim | (subst h; exact .byt)
theorem aAs_ok {s:AS}:∀ {l:List AV} {ps:List PD},aAs s l ps→AArgs s l ps
 | [],[],_ => .nil
 | a :: r,p :: ps,h=>by unfold aAs at h;exact .cons (aA_ok h.1) (aAs_ok h.2)
 | [],_ :: _,h=>by unfold aAs at h;exact h.elim
 | _ :: _,[],h=>by unfold aAs at h;exact h.elim
end
def okR:List PD→Prop
 | []=>True
 | .one _ :: r=>okR r
 | .ag _ :: r=>okR r
 | _=>False
theorem okR_ok : ∀ {rs : List PD}, okR rs → ∀ r ∈ rs, (∃ d, r = .one d) ∨ ∃ ds, r = .ag ds
  | [], _, r, hr => by cases hr
  | .one d :: l, h, r, hr => by
    rcases List.mem_cons.1 hr with rfl | hr
    · exact .inl ⟨d, rfl⟩
    · exact okR_ok (rs := l) h r hr
  | .ag ds :: l, h, r, hr => by
    rcases List.mem_cons.1 hr with rfl | hr
    · exact .inr ⟨ds, rfl⟩
    · exact okR_ok (rs := l) h r hr
theorem xcall_o {P:Program} {dst:Option Tmp} {f:Operand} {args:Array Operand} {tys:Array TypeId} {ty:TypeId} {pos:String} {af:Array Edge} {gd:Option (Nat × Bool)} {s:AS} {F:FuncId} {cap:List AV} {ps rs:List PD} {K:AS→Prop}
  (hf:s.ev f = .fn F cap) (hc:Con P F ps rs) (ha:AArgs s (args.toList.map s.ev++cap) ps) (ho:okR rs) (h:K ((mkR s (flatD rs)).2.pt dst (retA (packA rs (mkR s (flatD rs)).1)))):xO P s ⟨dst,.call ⟨.value f,args,tys⟩,ty,pos,af,gd⟩ K:=by
 simp only [xO]
 rw [hf]
 exact ⟨ps,rs,ha,hc,okR_ok ho,h⟩
theorem sw_call {P:Program} {all rest:List Oper} {st:List It} {dst:Option Tmp} {f:Operand} {args:Array Operand} {tys:Array TypeId} {ty:TypeId} {pos:String} {af:Array Edge} {gd:Option (Nat × Bool)} {s:AS} {Q:QE} {F:FuncId} {cap:List AV} {ps rs:List PD}
  (hc:Con P F ps rs) (hf:s.ev f = .fn F cap) (ha:AArgs s (args.toList.map s.ev++cap) ps) (ho:okR rs) (h:SW P (.ops all rest :: st) ((mkR s (flatD rs)).2.pt dst (retA (packA rs (mkR s (flatD rs)).1))) Q) :
  SW P (.ex all ⟨dst,.call ⟨.value f,args,tys⟩,ty,pos,af,gd⟩ rest :: st) s Q :=
 xex_of (xcall_o (K:=fun s'=>XOps P all rest s' (SX (SWb P st Q).2 (SWb P st Q).1 Q)) hf hc ha ho h)
theorem sw_callD {P:Program} {all:List Oper} {r:OrdT} {st:List It} {dst:Option Tmp} {f:Operand} {args:Array Operand} {tys:Array TypeId} {ty:TypeId} {pos:String} {af:Array Edge} {gd:Option (Nat × Bool)} {s:AS} {Q:QE} {F:FuncId} {cap:List AV} {ps rs:List PD}
  (hc:Con P F ps rs) (hf:s.ev f = .fn F cap) (ha:AArgs s (args.toList.map s.ev++cap) ps) (ho:okR rs) (h:SW P (.dr all r :: st) ((mkR s (flatD rs)).2.pt dst (retA (packA rs (mkR s (flatD rs)).1))) Q) :
  SW P (.dg all ⟨dst,.call ⟨.value f,args,tys⟩,ty,pos,af,gd⟩ false r :: st) s Q :=
 dg_eff (xcall_o (K:=fun s'=>XDr P all r s' (SX (SWb P st Q).2 (SWb P st Q).1 Q)) hf hc ha ho h)
theorem sw_cut {P:Program} {Q:QE} {c:Code} {st:List It} {s:AS} (s':AS) (ρ:Nat→Nat) (hs:Sub ρ s' s) (h:SW P (.code c :: st) s' Q):SW P (.code c :: st) s Q:=XW.sub ρ hs h
def qLp {ι:Type} (P:Program) (I:ι→Prop) (S:ι→AS) (μ:ι→Nat) (i:ι) (st:List It) (Q:QE):QE:=fun e s'=>match e with
 | .normal=>∃ (j:ι) (ρ:Nat→Nat),I j∧μ j<μ i∧Sub ρ (S j) s'
 | .exit id=>(popTo id st).isSome=true∧SW P ((popTo id st).getD []) s' Q
 | .ret=>Q .ret s'
 | _=>False
theorem sw_loop {P : Program} {x : Code} {st : List It} {s : AS} {Q : QE} {ι : Type} (I : ι → Prop) (S : ι → AS) (μ : ι → Nat) (i0 : ι) (ρ0 : Nat → Nat) (hI : I i0) (h0 : Sub ρ0 (S i0) s)
    (hr : ∀ i, I i → SW P [.code x] (S i) (qLp P I S μ i st Q)) : SW P (.code (.loop x) :: st) s Q := by
  intro w0 G a w hrel
  obtain ⟨G0, hr0⟩ := hrel.sub h0
  have hmin : ∀ (a : Act) (w : World), (∃ i G, I i ∧ Rel w0 G (S i) a w) → ∃ n, (∃ i G, (I i ∧ Rel w0 G (S i) a w) ∧ μ i = n) ∧ ∀ m, (∃ i G, (I i ∧ Rel w0 G (S i) a w) ∧ μ i = m) → n ≤ m := by
    intro a w ⟨i, G, h⟩
    have : ∀ k, ∀ i G, I i ∧ Rel w0 G (S i) a w → μ i ≤ k → ∃ n, (∃ i G, (I i ∧ Rel w0 G (S i) a w) ∧ μ i = n) ∧ ∀ m, (∃ i G, (I i ∧ Rel w0 G (S i) a w) ∧ μ i = m) → n ≤ m := by
      intro k
      induction k with
      | zero => intro i G h hk; exact ⟨μ i, ⟨i, G, h, rfl⟩, fun m _ => by omega⟩
      | succ k ih =>
        intro i G h hk
        by_cases hx : ∃ i' G', (I i' ∧ Rel w0 G' (S i') a w) ∧ μ i' ≤ k
        · obtain ⟨i', G', h', hk'⟩ := hx
          exact ih i' G' h' hk'
        · refine ⟨μ i, ⟨i, G, h, rfl⟩, fun m ⟨i', G', h', hm⟩ => ?_⟩
          by_cases hm2 : m ≤ k
          · exact absurd ⟨i', G', h', by omega⟩ hx
          · omega
    exact this (μ i) i G h (Nat.le_refl _)
  classical
  let ν : Act → World → Nat := fun a w => if h : ∃ i G, I i ∧ Rel w0 G (S i) a w then (hmin a w h).choose else 0
  have hν : ∀ a w, (h : ∃ i G, I i ∧ Rel w0 G (S i) a w) → (∃ i G, (I i ∧ Rel w0 G (S i) a w) ∧ μ i = ν a w) ∧ ∀ i G, I i ∧ Rel w0 G (S i) a w → ν a w ≤ μ i := fun a w h => by
    have h1 : ν a w = (hmin a w h).choose := dif_pos h
    obtain ⟨h2, h3⟩ := (hmin a w h).choose_spec
    rw [h1]
    exact ⟨h2, fun i G hr => h3 _ ⟨i, G, hr, rfl⟩⟩
  refine wp_loop (fun a w => ∃ i G, I i ∧ Rel w0 G (S i) a w) ν ⟨i0, G0, hI, hr0⟩ fun a w hII => ?_
  obtain ⟨⟨i, G, hri, hi⟩, _⟩ := hν a w hII
  refine wp_mono (XW_of_SW (hr i hri.1) w0 G a w hri.2) fun e a' w' ⟨G', s', hr', hq⟩ => ?_
  cases e
  case normal =>
    obtain ⟨j, ρ, hIj, hlt, hsub⟩ := hq
    obtain ⟨G2, hr2⟩ := hr'.sub hsub
    have h2 : ∃ i G, I i ∧ Rel w0 G (S i) a' w' := ⟨j, G2, hIj, hr2⟩
    exact ⟨h2, by have := (hν a' w' h2).2 j G2 ⟨hIj, hr2⟩; omega⟩
  case exit id _x =>
    obtain ⟨h1, h2⟩ := hq
    obtain ⟨st', hst⟩ := Option.isSome_iff_exists.1 h1
    rw [hst] at h2
    exact ⟨G', s', hr', SX_pop hst h2⟩
  case ret =>
    have hq' : Q .ret s' := hq
    exact ⟨G', s', hr', SX_ret hq' _⟩
  all_goals exact hq.elim
theorem sw_cutR {P:Program} {all rest:List Oper} {st:List It} {dst:Option Tmp} {t:TypeId} {x:Operand} {lo hi:Option Operand} {ty:TypeId} {pos:String} {af:Array Edge} {gd:Option (Nat × Bool)} {s:AS} {Q:QE} (o:Nat) {sz n:Nat} {cs:List D} {T:TypeId} {dp:Bool}
  (hx:s.ev x = .sl o) (hI:s.owf o=some ⟨.rows sz n cs,some T,dp⟩) (hT:(tElem P t).map (·.2)=some sz) (hv:(vCut (ixL (lo.map s.ev)) (ixH n (hi.map s.ev)) n).1)
  (h:SW P (.ops all rest :: st) ((s.mk' [o] ⟨cutD (.rows sz n cs) (vCut (ixL (lo.map s.ev)) (ixH n (hi.map s.ev)) n).2.1 (vCut (ixL (lo.map s.ev)) (ixH n (hi.map s.ev)) n).2.2,some T,dp⟩).pt dst (.sl s.nx)) Q) :
  SW P (.ex all ⟨dst,.slice t x lo hi none,ty,pos,af,gd⟩ rest :: st) s Q:=fun w0 G a w hr=>by
 obtain ⟨l,h',e1,e2,e3,e4⟩:=vCut_x hv
 rw [e4] at h
 obtain ⟨e,he⟩:=elem_x hT
 obtain ⟨a0,cap,hu,hnc,G',hr',hrv⟩:=sl_shape hr hI (hr.ev x) hx (l:=l.toNat) (h':=h'.toNat) (by omega) (by omega)
 have hrun:=slice_run (P:=P) (G:=G) (W:=w) (owf:=s.owf) (nx:=s.nx) (a':=a0) (vl:=lo.map a.eval) (vh:=hi.map a.eval) hnc he
  (fun z hz=>by
   cases lo with
   | none=>cases hz
   | some y=>injection hz with hz;subst hz;exact ⟨_,rfl,hr.ev y⟩)
  (fun hz=>by
   cases lo with
   | none=>rfl
   | some y=>cases hz)
  (fun z hz=>by
   cases hi with
   | none=>cases hz
   | some y=>injection hz with hz;subst hz;exact ⟨_,rfl,hr.ev y⟩)
  (fun hz=>by
   cases hi with
   | none=>rfl
   | some y=>cases hz) e1 e2 e3 w
 unfold Oper.wp
 have e5:(execOp a.eval ⟨dst,.slice t x lo hi none,ty,pos,af,gd⟩).run P w = .ok (.value (.slice (if cap=l.toNat then a0 else a0.map (·.add (l.toNat * sz))) (h'.toNat-l.toNat) (cap-l.toNat))) w:=by
  show ((do pure (.value (← Instr.sliceAt t (a.eval x) (lo.map a.eval) (hi.map a.eval) none)):Sem Next)).run P w=_
  rw [hu]
  simp only [Sem.run_bind,hrun,Result.andThen_ok,Sem.run_pure]
 rw [e5]
 exact h w0 G' _ w (hr'.pt dst hrv)
theorem res_nil (w0:World0) (Z:Nat→Prop) (w:World) (sz:Nat) (T:TypeId) (a:Option Addr):Res w0 Z w [] (.slice a 0 0) ⟨.rows sz 0 [],some T,true⟩:=by
 refine ⟨by simp, ?_,fun _=>⟨?_,by simp⟩,fun T' hT => ?_⟩
 ·unfold RepP;exact ⟨a,0,rfl,by simp,by simp,by simp,.inl rfl⟩
 ·unfold OwnV;exact ⟨a,0,rfl,by simp,by simp,by simp,.inl ⟨rfl,rfl⟩⟩
 ·exact ⟨sz,0,[],[],rfl,ownR_nil w _ _ _,by unfold RepPs;rfl,by cases a <;> simp [rowR],by simp,fun _=>⟨[],by unfold OwnVs;exact ⟨rfl,rfl⟩,by simp,by simp⟩⟩
theorem sw_ownB {P:Program} {Q:QE} {c:Code} {st:List It} {s:AS} (b i:Nat) (T:TypeId) {cs:List AV} {sz:Nat} (h1:look s.bx b=some cs) (h2:cs[i]? = some (.nl sz))
  (h:SW P (.code c :: st) ((s.mk' [] ⟨.rows sz 0 [],some T,true⟩).setb b (cs.set i (.sl s.nx))) Q):SW P (.code c :: st) s Q:=fun w0 G a w hr=>by
 obtain ⟨_,_,us0,T0,hB0,hrs0⟩:=hr.bx b cs h1
 obtain ⟨u0,hu0,hv0⟩:=RVs.get cs us0 i _ hrs0 h2
 unfold RV at hv0
 obtain ⟨a0,rfl⟩:=hv0
 obtain ⟨h3,h4⟩:=hr.own' (w':=w) (eats:=[]) hr.bel (Nat.le_refl _) (fun _ _ _=>rfl) (res_nil w0 _ w sz T a0) rfl (fun _ _ _=>by simp) (fun _ _ _ _ _ _=>by simp)
 have h1':look (s.mk' [] ⟨.rows sz 0 [],some T,true⟩).bx b=some cs:=h1
 obtain ⟨q1,q2,us,T',hB,hrs⟩:=h3.bx b cs h1'
 have eus:us=us0:=by
  unfold Blk at hB hB0
  have hB1:w.heap[G.β b]? = some (.cells us.toArray T' (0,0)):=hB
  rw [hB0] at hB1
  injection hB1 with hB1
  injection hB1 with hB1 _ _
  exact (List.toArray_inj hB1).symm
 have hu:us[i]? = some (.slice a0 0 0):=by rw [eus];exact hu0
 have hrs':=RVs.set h4 cs us i hrs
 have e:us.set i (.slice a0 0 0)=us:=by
  obtain ⟨hlt,hx⟩:=List.getElem?_eq_some_iff.1 hu
  rw [← hx];exact List.set_getElem_self hlt
 rw [e] at hrs'
 exact h w0 _ a w (h3.setb h1' hrs' hB (Only.refl _ _))
def fQ (P:Program) (fn:Func) (rs:List PD) (e:Exit) (s:AS):Prop:=(e = .ret∨e = .normal)∧xRet P fn s rs
theorem fQ_panic {P:Program} {fn:Func} {rs:List PD}:∀ c s,¬ fQ P fn rs (.panic c) s:=fun c s h=>by rcases h.1 with h | h <;> cases h
theorem con_run {P : Program} {f : FuncId} {fn : Func} {c : Code} {args rs : List PD} (hf : P.funcs[f]? = some fn) (hb : fn.body = some c) (hn : (fn.name == "runtime.NumGoroutine") = false) (hnt : args.length ≤ fn.ntmps)
  (h:xRun P 400 [.code c] ⟨fn.ntmps,argT 0 args,[],[],0,[]⟩ (fQ P fn rs)):Con P f args rs :=
 con_of hf hb hn hnt (XW_of_SW (sw_run 400 _ _ _ h))
theorem qLp_panic {ι:Type} {P:Program} {I:ι→Prop} {S:ι→AS} {μ:ι→Nat} {i:ι} {st:List It} {Q:QE}:∀ c s,¬ qLp P I S μ i st Q (.panic c) s:=fun c s h=>h
def qK (S':AS):QE:=fun e s=>e = .normal∧∃ ρ,Sub ρ S' s
theorem qK_panic {S':AS}:∀ c s,¬ qK S' (.panic c) s:=fun c s h=>by cases h.1
theorem sw_drawnK {P:Program} {id:Nat} {ops:Array Oper} {st:List It} {s:AS} {Q:QE} (S':AS) (ord:OrdT) (hm:P.follows .mixedOrders=true) (hc:(Region.noSelect ops && (wellOrd ord && !isAlt ord) && chkOrd ops ord ops.size (Array.replicate ops.size false))=true)
  (h:SW P [.dr ops.toList ord] s (qK S')) (hk:SW P st S' Q):SW P (.code (.region id ops true) :: st) s Q:=fun w0 G a w hr =>
 wp_mono ((sw_drawn (st:=[]) ord hm qK_panic hc h) w0 G a w hr) fun e a' w' ⟨G',s',hr',hq⟩=>by
  have hq':qK S' e s':=by cases e <;> first | exact hq | (cases hq.1)
  obtain ⟨rfl,ρ,hs⟩:=hq'
  obtain ⟨G'',hr''⟩:=hr'.sub hs
  exact ⟨G'',S',hr'',hk⟩
def qKr (ρ:Nat→Nat) (S':AS):QE:=fun e s=>e = .normal∧Sub ρ S' s
theorem sw_drawnKr {P:Program} {id:Nat} {ops:Array Oper} {st:List It} {s:AS} {Q:QE} (ρ:Nat→Nat) (S':AS) (ord:OrdT) (hm:P.follows .mixedOrders=true) (hc:(Region.noSelect ops && (wellOrd ord && !isAlt ord) && chkOrd ops ord ops.size (Array.replicate ops.size false))=true)
  (h:SW P [.dr ops.toList ord] s (qKr ρ S')) (hk:SW P st S' Q):SW P (.code (.region id ops true) :: st) s Q:=fun w0 G a w hr =>
 wp_mono ((sw_drawn (st:=[]) ord hm (fun c s h=>by cases h.1) hc h) w0 G a w hr) fun e a' w' ⟨G',s',hr',hq⟩=>by
  have hq':qKr ρ S' e s':=by cases e <;> first | exact hq | (cases hq.1)
  obtain ⟨rfl,hs⟩:=hq'
  obtain ⟨G'',hr''⟩:=hr'.sub hs
  exact ⟨G'',S',hr'',hk⟩
inductive MA where
 | b (p:PD)
 | m (d:D)
 | g (ds:List D)
def RepMA (w:World) (S:Nat→Prop):MA→Value→List Nat→Prop
 | .b p,v,f=>RepX w S p v∧f=[]
 | .m d,v,f=>OwnV w d v f
 | .g ds,v,f=>∃ vs,v = .agg vs.toArray∧OwnVs w ds vs f
def RepMAs (w:World) (S:Nat→Prop):List MA→List Value→List Nat→Prop
 | [],us,fp=>us=[]∧fp=[]
 | p :: ps,us,fp=>∃ v r f g,us=v :: r∧fp=f++g∧RepMA w S p v f∧RepMAs w S ps r g
def ConM (P:Program) (f:FuncId) (args:List MA) (rs:List PD):Prop :=
 (∃ fn, P.funcs[f]? = some fn ∧ fn.body.isNone = false ∧ (fn.name == "runtime.NumGoroutine") = false) ∧
 ∀ w us fp S,GI w→(∀ k ∈ GBl,S k)→(∀ k,S k→k<w.heap.size∧k ∉ fp)→RepMAs w S args us fp→fp.Nodup→Calls P f us.toArray w fun e w'=>Bel (· ∈ fp) w w'∧∃ vs fp',e = .returned (retV (packV rs vs))∧OwnVs w' (flatD rs) vs fp'∧fp'.Nodup∧∀ k ∈ fp',k ∈ fp∨w.heap.size≤k
def flatM:List MA→List D
 | []=>[]
 | .b _ :: r=>flatM r
 | .m d :: r=>d :: flatM r
 | .g ds :: r=>ds++flatM r
def packM:List MA→List AV→List AV
 | [],_=>[]
 | .b p :: r,us=>argA p :: packM r us
 | .m _ :: r,us=>us.headD .un :: packM r us.tail
 | .g ds :: r,us => .ag (us.take ds.length) :: packM r (us.drop ds.length)
def numT:Nat→List AV→List (Nat × AV)
 | _,[]=>[]
 | i,a :: r=>(i,a) :: numT (i+1) r
theorem repM_flat {w : World} {S : Nat → Prop} : ∀ (args : List MA) (us : List Value) (fp : List Nat), RepMAs w S args us fp → ∃ vs, OwnVs w (flatM args) vs fp ∧ ∀ (G : Gh) (owf : Nat → Option OwnI) (nx : Nat) (avs : List AV), G.Z = S → RVs G w owf nx avs vs → RVs G w owf nx (packM args avs) us
  | [], us, fp, h => by
    unfold RepMAs at h
    obtain ⟨rfl, rfl⟩ := h
    exact ⟨[], by unfold flatM OwnVs; exact ⟨rfl, rfl⟩, fun G owf nx avs _ h => by unfold packM RVs; rfl⟩
  | .b p :: r, us, fp, h => by
    unfold RepMAs RepMA at h
    obtain ⟨v, us', f, g, rfl, rfl, ⟨h1, rfl⟩, h2⟩ := h
    obtain ⟨vs, h3, h4⟩ := repM_flat r us' g h2
    exact ⟨vs, by unfold flatM; simpa using h3, fun G owf nx avs hz h => by unfold packM RVs; exact ⟨v, us', rfl, argA_ok (hz ▸ h1), h4 G owf nx avs hz h⟩⟩
  | .m d :: r, us, fp, h => by
    unfold RepMAs RepMA at h
    obtain ⟨v, us', f, g, rfl, rfl, h1, h2⟩ := h
    obtain ⟨vs, h3, h4⟩ := repM_flat r us' g h2
    refine ⟨v :: vs, by unfold flatM OwnVs; exact ⟨v, vs, f, g, rfl, rfl, h1, h3⟩, fun G owf nx avs hz h => ?_⟩
    match avs, h with
    | [], h => unfold RVs at h; cases h
    | x :: xs, h =>
      unfold RVs at h
      obtain ⟨u, r', e, h5, h6⟩ := h
      injection e with e1 e2
      subst e1 e2
      unfold packM RVs
      exact ⟨v, us', rfl, h5, h4 G owf nx xs hz h6⟩
  | .g ds :: r, us, fp, h => by
    unfold RepMAs RepMA at h
    obtain ⟨v, us', f, g, rfl, rfl, ⟨ws, rfl, h1⟩, h2⟩ := h
    obtain ⟨vs, h3, h4⟩ := repM_flat r us' g h2
    have hl := OwnVs.len _ _ _ h1
    refine ⟨ws ++ vs, by unfold flatM; exact OwnVs.append _ _ _ _ _ _ h1 h3, fun G owf nx avs hz h => ?_⟩
    unfold packM RVs
    have h7 := h.take ds.length
    have h8 := h.drop ds.length
    rw [List.take_left' hl] at h7
    rw [List.drop_left' hl] at h8
    exact ⟨_, us', rfl, by unfold RV; exact ⟨ws, rfl, h7⟩, h4 G owf nx _ hz h8⟩
theorem numT_look {nx : Nat} {G : Gh} {w : World} {owf : Nat → Option OwnI} : ∀ (avs : List AV) (us : List Value) (i t : Nat) (v : AV), RVs G w owf nx avs us → look (numT i avs) t = some v → i ≤ t ∧ ∃ u, us[t - i]? = some u ∧ RV G w owf nx v u
  | [], us, i, t, v, h, hl => by cases hl
  | p :: ps, us, i, t, v, h, hl => by
    unfold RVs at h
    obtain ⟨u, r, rfl, h1, h2⟩ := h
    unfold numT at hl
    rw [look_cons] at hl
    split at hl
    · rename_i e
      subst e
      injection hl with hl
      subst hl
      exact ⟨Nat.le_refl _, u, by simp, h1⟩
    · obtain ⟨h3, u', h4, h5⟩ := numT_look ps r (i + 1) t v h2 hl
      refine ⟨by omega, u', ?_, h5⟩
      have : t - i = (t - (i + 1)) + 1 := by omega
      rw [this]; simpa using h4
theorem RepMAs.len {w : World} {S : Nat → Prop} : ∀ {ps : List MA} {us : List Value} {fp : List Nat}, RepMAs w S ps us fp → us.length = ps.length
  | [], us, fp, h => by unfold RepMAs at h; rw [h.1]; rfl
  | p :: ps, us, fp, h => by
    unfold RepMAs at h
    obtain ⟨u, r, f, g, rfl, _, _, h2⟩ := h
    simp [RepMAs.len h2]
def s0M (nt:Nat) (args:List MA):AS:={ (mkR ⟨nt,[],[],[],0,[]⟩ (flatM args)).2 with tm:=numT 0 (packM args (mkR ⟨nt,[],[],[],0,[]⟩ (flatM args)).1) }
theorem con_ofM {P : Program} {f : FuncId} {fn : Func} {c : Code} {args : List MA} {rs : List PD} (hf : P.funcs[f]? = some fn) (hb : fn.body = some c) (hn : (fn.name == "runtime.NumGoroutine") = false) (hnt : args.length ≤ fn.ntmps)
  (h:XW P c (s0M fn.ntmps args) fun e s=>(e = .ret∨e = .normal)∧xRet P fn s rs):ConM P f args rs:=by
 refine ⟨⟨fn,hf,by simp [hb],hn⟩,fun w us fp S hg hgs hS hu hnd=>calls_of_wp hf hb ?_⟩
 have hlen:=hu.len
 obtain ⟨vs,hown,hpk⟩:=repM_flat args us fp hu
 have hrel0:Rel ⟨w,fun k=>k ∈ fp,fun k=>k ∈ fp,fun _=>0,fun _=>none,S,fun _ h=>h,fun _ h=>h,GI_st hg (fun k hk=>(hS k (hgs k hk)).2),hgs⟩ ⟨fun _=>[],fun _=>undef,fun _=>0,S⟩ ⟨fn.ntmps,[],[],[],0,[]⟩ { tmps:=us.toArray++Array.replicate (fn.ntmps-us.toArray.size) undef,defers:=[] } w :=
  ⟨by simp;omega,rfl,fun t v ht=>(by cases ht),fun b cs hb=>(by cases hb),fun _ _ _ _ hb=>(by cases hb),fun o I ho=>(by cases ho),fun _ _ _ _ ho=>(by cases ho),Bel.refl _ _,fun k hk=>(hS k hk).1,fun _ _ hb=>(by simp at hb),fun _ hk=>hk,fun _ hk => .inl hk⟩
 obtain ⟨G',hr1,hrv,_,hzz⟩:=mkR_ok (flatM args) vs fp _ _ hrel0 hown hnd (fun k hk=>⟨fun hz=>(hS k hz).2 hk,.inr hk⟩) (fun k hk=>⟨fun b cs hb=>(by cases hb),fun o I ho=>(by cases ho)⟩)
 have hpk':=hpk G' _ _ _ hzz hrv
 have hrel:Rel ⟨w,fun k=>k ∈ fp,fun k=>k ∈ fp,fun _=>0,fun _=>none,S,fun _ h=>h,fun _ h=>h,GI_st hg (fun k hk=>(hS k (hgs k hk)).2),hgs⟩ G' (s0M fn.ntmps args) { tmps:=us.toArray++Array.replicate (fn.ntmps-us.toArray.size) undef,defers:=[] } w:=by
  refine ⟨hr1.nt,rfl,fun t v ht => ?_,hr1.bx,hr1.inj,hr1.own,hr1.dis,hr1.bel,hr1.zl,hr1.pb,hr1.zz⟩
  obtain ⟨_,u,hu',hv⟩:=numT_look _ us 0 t v hpk' ht
  refine ⟨u, ?_,hv⟩
  have hlt:t<us.length:=by
   simp only [Nat.sub_zero] at hu'
   exact (List.getElem?_eq_some_iff.1 hu').1
  rw [Array.getElem?_append_left (by simpa using hlt)]
  simpa using hu'
 refine wp_mono (h ⟨w,fun k=>k ∈ fp,fun k=>k ∈ fp,fun _=>0,fun _=>none,S,fun _ h=>h,fun _ h=>h,GI_st hg (fun k hk=>(hS k (hgs k hk)).2),hgs⟩ _ _ w hrel) fun e a' w' ⟨G',s',hr',he,hret,hnd⟩ => ?_
 have hpost:a'.defers=[]∧∃ v,(results fn a'.tmps).run P w' = .ok v w'∧(Bel (· ∈ fp) w w'∧∃ vs fp',(Ending.returned v) = .returned (retV (packV rs vs))∧OwnVs w' (flatD rs) vs fp'∧fp'.Nodup∧∀ k ∈ fp',k ∈ fp∨w.heap.size≤k):=by
  obtain ⟨avs,hav⟩:=rPs_some hret
  obtain ⟨us',h1,h2⟩:=ress_run hr' _ _ hav
  obtain ⟨vs,h3,h4,h5⟩:=rPs_own hr' hav h2 hret
  refine ⟨hr'.df,retV us', ?_,hr'.bel,vs,_,by rw [← h3],h4,flat_nodup hr' _ hnd h5,fun k hk => ?_⟩
  ·rw [results_eq,Array.mapM_eq_mapM_toList]
   simp only [map_eq_pure_bind,Sem.run_bind,h1,Result.andThen_ok,Sem.run_pure]
   match us' with
   | []=>rfl
   | [u]=>rfl
   | u :: u2 :: r=>simp [retV]
  ·obtain ⟨o,ho,hko⟩:=List.mem_flatMap.1 hk
   obtain ⟨I,hI,_⟩:=h5 o ho
   exact ((hr'.own o I hI).2.1.1 k hko).1.2.symm
 rcases he with rfl | rfl <;> exact hpost
theorem con_runM {P : Program} {f : FuncId} {fn : Func} {c : Code} {args : List MA} {rs : List PD} (hf : P.funcs[f]? = some fn) (hb : fn.body = some c) (hn : (fn.name == "runtime.NumGoroutine") = false) (hnt : args.length ≤ fn.ntmps)
  (h:xRun P 400 [.code c] (s0M fn.ntmps args) (fQ P fn rs)):ConM P f args rs :=
 con_ofM hf hb hn hnt (XW_of_SW (sw_run 400 _ _ _ h))
def mA (t s:AS):AV→MA→Prop
 | a,.b p=>aA t a p
 | a,.m d=>rD s a d
 | .ag cs,.g ds=>rDs s cs ds
 | _,.g _=>False
def mAs (t s:AS):List AV→List MA→Prop
 | [],[]=>True
 | a :: r,p :: ps=>mA t s a p∧mAs t s r ps
 | _,_=>False
def eatM:List AV→List MA→List Nat
 | a :: r,.m _ :: ps=>eatsOf [a]++eatM r ps
 | .ag cs :: r,.g _ :: ps=>eatsOf cs++eatM r ps
 | _ :: r,_ :: ps=>eatM r ps
 | _,_=>[]
def AS.kl (s:AS) (l:List Nat):AS:={ s with ow:=kill l s.ow }
theorem kl_owf {s:AS} {l:List Nat} {o:Nat} {I:OwnI} (h:(s.kl l).owf o=some I):s.owf o=some I∧o ∉ l:=by
 unfold AS.kl AS.owf at h
 simp only at h
 rw [look_kill] at h
 split at h
 ·cases h
 ·rename_i hn;exact ⟨h,hn⟩
theorem Rel.kl {w0:World0} {G:Gh} {s:AS} {a:Act} {w:World} (h:Rel w0 G s a w) (l:List Nat):Rel w0 G (s.kl l) a w:=by
 have ht:∀ o I',o<s.nx→(s.kl l).owf o=some I'→s.owf o=some I'∧G.root o=G.root o∧G.B o=G.B o∧∀ k ∈ G.B o,w.heap[k]? = w.heap[k]? := fun o I' _ ho=>⟨(kl_owf ho).1,rfl,rfl,fun _ _=>rfl⟩
 refine ⟨h.nt,h.df,fun t x hx => ?_,fun b cs hb => ?_,h.inj,fun o I ho=>h.own o I (kl_owf ho).1,fun o o' I I' ho ho'=>h.dis o o' I I' (kl_owf ho).1 (kl_owf ho').1,h.bel,h.zl,h.pb,h.zz⟩
 ·obtain ⟨u,hu,hr⟩:=h.tm t x hx
  exact ⟨u,hu,RV.turn (Nat.le_refl _) (fun _ hk=>⟨hk,rfl⟩) (fun _ _=>rfl) ht x u hr⟩
 ·obtain ⟨h1,h2,us,T,h3,h4⟩:=h.bx b cs hb
  exact ⟨h1,h2,us,T,h3,RVs.turn (Nat.le_refl _) (fun _ hk=>⟨hk,rfl⟩) (fun _ _=>rfl) ht _ _ h4⟩
theorem mAs_own {w0 : World0} {G : Gh} {s t : AS} {a : Act} {w : World} (h : Rel w0 G s a w) (ht : Rel w0 G t a w) (hnx : t.nx = s.nx) (hto : ∀ o I, t.owf o = some I → s.owf o = some I) : ∀ (l : List AV) (ps : List MA) (us : List Value), RVs G w s.owf s.nx l us → mAs t s l ps → RepMAs w (Reach G t) ps us ((eatM l ps).flatMap G.B) ∧ ∀ o ∈ eatM l ps, ∃ I, s.owf o = some I ∧ I.deep = true
  | [], [], us, hr, _ => by unfold RVs at hr; subst hr; exact ⟨by unfold RepMAs; exact ⟨rfl, rfl⟩, by simp [eatM]⟩
  | [], _ :: _, us, hr, hm => hm.elim
  | _ :: _, [], us, hr, hm => hm.elim
  | x :: l, .b p :: ps, us, hr, hm => by
    unfold RVs at hr
    obtain ⟨u, r, rfl, h1, h2⟩ := hr
    obtain ⟨h3, h4⟩ := mAs_own h ht hnx hto l ps r h2 hm.2
    have e : eatM (x :: l) (.b p :: ps) = eatM l ps := by cases x <;> rfl
    rw [e]
    have h1' : RV G w t.owf t.nx x u := RV.turn (by rw [hnx]; exact Nat.le_refl _) (fun _ hk => ⟨hk, rfl⟩) (fun _ _ => rfl) (fun o I _ ho => ⟨hto o I ho, rfl, rfl, fun _ _ => rfl⟩) x u h1
    exact ⟨by unfold RepMAs RepMA; exact ⟨u, r, [], _, rfl, rfl, ⟨AArg.okX ht (aA_ok hm.1) h1', rfl⟩, h3⟩, h4⟩
  | x :: l, .m d :: ps, us, hr, hm => by
    unfold RVs at hr
    obtain ⟨u, r, rfl, h1, h2⟩ := hr
    obtain ⟨h3, h4⟩ := mAs_own h ht hnx hto l ps r h2 hm.2
    obtain ⟨h5, h6⟩ := rD_own h h1 hm.1
    have e : eatM (x :: l) (.m d :: ps) = eatsOf [x] ++ eatM l ps := by cases x <;> rfl
    rw [e, List.flatMap_append]
    refine ⟨by unfold RepMAs RepMA; exact ⟨u, r, _, _, rfl, rfl, h5, h3⟩, fun o ho => ?_⟩
    rcases List.mem_append.1 ho with ho | ho
    · exact h6 o ho
    · exact h4 o ho
  | x :: l, .g ds :: ps, us, hr, hm => by
    unfold RVs at hr
    obtain ⟨u, r, rfl, h1, h2⟩ := hr
    obtain ⟨h3, h4⟩ := mAs_own h ht hnx hto l ps r h2 hm.2
    cases x <;> first | exact hm.1.elim | skip
    rename_i cs
    unfold RV at h1
    obtain ⟨ws, rfl, h1⟩ := h1
    obtain ⟨h5, h6⟩ := rDs_own h h1 hm.1
    have e : eatM (.ag cs :: l) (.g ds :: ps) = eatsOf cs ++ eatM l ps := rfl
    rw [e, List.flatMap_append]
    refine ⟨by unfold RepMAs RepMA; exact ⟨_, r, _, _, rfl, rfl, ⟨ws, rfl, h5⟩, h3⟩, fun o ho => ?_⟩
    rcases List.mem_append.1 ho with ho | ho
    · exact h6 o ho
    · exact h4 o ho
theorem reach_kl {w0:World0} {G:Gh} {s:AS} {a:Act} {w:World} (h:Rel w0 G s a w) {l:List Nat} (hl:∀ o ∈ l,∃ I,s.owf o=some I∧I.deep=true):∀ k,Reach G (s.kl l) k→k<w.heap.size∧k ∉ l.flatMap G.B:=fun k hk=>by
 refine ⟨(h.kl l).reach k hk,fun hm => ?_⟩
 obtain ⟨o,ho,hko⟩:=List.mem_flatMap.1 hm
 obtain ⟨I,hI,_⟩:=hl o ho
 rcases hk with hk | ⟨o',I',ho',hk⟩ | ⟨b,cs,hb,rfl⟩
 ·exact ((h.own o I hI).2.1.1 k hko).1.1 hk
 ·obtain ⟨h1,h2⟩:=kl_owf ho'
  exact h.dis o o' I I' hI h1 (fun e=>h2 (e ▸ ho)) k hko hk
 ·exact (h.own o I hI).2.2 b cs hb hko
attribute [push_cast] s0M numT flatM packM AS.kl eatM fQ qLp xRun isCutO isB bv gT gW gN gV isU isPick pkC pkA pkB isCall popTo
end Go.Proofs.YtaidalilfmjfgaaGreat
