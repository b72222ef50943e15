import Derived.Test.YtaidalilfmjfgaaGreatCox
namespace Go.Proofs.YtaidalilfmjfgaaGreat
open Go.RowKit
set_option linter.unusedVariables false
set_option linter.unusedSimpArgs false
def toR:PD→RD
 | .one d => .one (.r d)
 | .ag ds => .ag (ds.map CD.r)
 | _ => .ag []
theorem aIX:∀ {args:List PD} {us:List Value} {w:World} {S:Nat→Prop} {fp fw:List Nat},Cu w S (args.map PA.b) us fp fw→CM w S args us∧fp=[]∧fw=[]∧FL (args.map PA.b) us=[]
 | [],us,w,S,fp,fw,h=>by
  rw [List.map_nil] at h
  unfold Cu at h
  obtain ⟨rfl,rfl,rfl⟩:=h
  exact ⟨by unfold CM;rfl,rfl,rfl,rfl⟩
 | p :: ps,us,w,S,fp,fw,h=>by
  rw [List.map_cons] at h
  unfold Cu at h
  obtain ⟨v,r,f,g,fw1,fw2,rfl,rfl,rfl,h1,h2⟩:=h
  unfold DK at h1
  obtain ⟨h1,rfl,rfl⟩:=h1
  obtain ⟨q1,rfl,rfl,q4⟩:=aIX h2
  refine ⟨by unfold CM;exact ⟨v,r,rfl,h1,q1⟩,rfl,rfl, ?_⟩
  rw [List.map_cons]
  unfold FL ptr
  simpa using q4
theorem Ou {w:World} {S:Nat→Prop}:∀ {ds:List D} {vs:List Value},An w S ds vs→BG w S (ds.map CD.r) vs [] []
 | [],vs,h=>by unfold An at h;rw [List.map_nil];unfold BG;exact ⟨h,rfl,rfl⟩
 | d :: ds,vs,h=>by
  unfold An at h
  obtain ⟨v,r,rfl,h1,h2⟩:=h
  rw [List.map_cons];unfold BG
  exact ⟨v,r,[],[],[],[],rfl,rfl,rfl,by unfold Fl;exact ⟨h1,rfl,rfl⟩,Ou h2⟩
theorem Kt:∀ {rs:List PD},okR rs→Br (rs.map toR)=(CL rs).map CD.r
 | [],_=>rfl
 | .one d :: rs,h=>by
  have:okR rs:=h
  simp only [List.map_cons,toR,Br,CL,Kt this]
 | .ag ds :: rs,h=>by
  have:okR rs:=h
  simp only [List.map_cons,toR,Br,CL,Kt this,List.map_append]
theorem JR:∀ {rs:List PD} {vs:List Value},okR rs→Fq (rs.map toR) vs=Gq rs vs
 | [],vs,_=>rfl
 | .one d :: rs,vs,h=>by
  have:okR rs:=h
  simp only [List.map_cons,toR,Fq,Gq,JR this]
 | .ag ds :: rs,vs,h=>by
  have:okR rs:=h
  simp only [List.map_cons,toR,Fq,Gq,JR this,List.length_map]
theorem Jj {P:Program} {f:FuncId} {args rs:List PD} (h:Con P f args rs) (ho:okR rs):Bc P f (args.map PA.b) [] (rs.map toR):=by
 refine ⟨h.1,fun w us fp fw S hg hgb hS hrep hnd => ?_⟩
 obtain ⟨hx,rfl,rfl,hp⟩:=aIX hrep
 refine (h.2 w us hg (CM.pd (fun k hk=>(hS k hk).1) hx)).mono fun e w' ⟨hb,vs,he,hf⟩ => ?_
 obtain ⟨fp,h1,h2,h3⟩:=hf
 refine ⟨aA5 hb,fun k=>S k∨(w.heap.size≤k∧k<w'.heap.size),vs,[],[],[],[],⟨fun k hk => .inl hk,fun k hk=>hk.imp id fun h => .inr h.1,fun k hk=>⟨hk.elim (fun h=>Nat.lt_of_lt_of_le (hS k h).1 hb.size) fun h=>h.2,by simp⟩⟩, ?_, ?_, ?_,by simp,by simp,by simp⟩
 ·rw [JR ho];exact he
 ·rw [Kt ho]
  exact Ou (Ao.p _ _ _ h1 fun k hk => .inr ⟨h3 k hk,Ao.lt _ _ _ h1 k hk⟩)
 ·rw [hp];unfold FM;exact ⟨rfl,rfl⟩
end Go.Proofs.YtaidalilfmjfgaaGreat
