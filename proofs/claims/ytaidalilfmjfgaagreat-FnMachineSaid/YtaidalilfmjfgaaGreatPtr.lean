import Derived.Test.YtaidalilfmjfgaaGreatAI17
namespace Go.Proofs.YtaidalilfmjfgaaGreat
open Go.RowKit
set_option linter.unusedVariables false
set_option linter.unusedSimpArgs false
mutual
def AV.fz (o:Nat) (d:D):AV→AV
 | .sl q=>if q=o then .br d else .sl q
 | .sp q e=>if q=o then .br e else .sp q e
 | .eo q k off=>if q=o then .eb d k off else .eo q k off
 | .fn f cap => .fn f (AV.fzs o d cap)
 | .ag cs => .ag (AV.fzs o d cs)
 | .tu cs => .tu (AV.fzs o d cs)
 | .rp cs => .rp (AV.fzs o d cs)
 | v=>v
def AV.fzs (o:Nat) (d:D):List AV→List AV
 | []=>[]
 | a :: r=>AV.fz o d a :: AV.fzs o d r
end
def fzT (o:Nat) (d:D):List (Nat × AV)→List (Nat × AV)
 | []=>[]
 | (t,v) :: r=>(t,v.fz o d) :: fzT o d r
def fzB (o:Nat) (d:D):List (Nat × List AV)→List (Nat × List AV)
 | []=>[]
 | (t,v) :: r=>(t,AV.fzs o d v) :: fzB o d r
def AS.fz (s:AS) (o:Nat) (d:D):AS:={ s with tm:=fzT o d s.tm,bx:=fzB o d s.bx,ow:=(o,none) :: s.ow }
theorem Ox {o:Nat} {d:D}:∀ {l:List (Nat × AV)} {t:Nat} {v:AV},AO (fzT o d l) t=some v→∃ v',AO l t=some v'∧v=v'.fz o d
 | [],t,v,h=>by cases h
 | (k,x) :: l,t,v,h=>by
  unfold fzT at h
  rw [Az] at h ⊢
  split at h
  ·rename_i e;injection h with h;exact ⟨x,by rw [if_pos e],h.symm⟩
  ·rename_i e;rw [if_neg e];exact Ox h
theorem FW {o:Nat} {d:D}:∀ {l:List (Nat × List AV)} {t:Nat} {v:List AV},AO (fzB o d l) t=some v→∃ v',AO l t=some v'∧v=AV.fzs o d v'
 | [],t,v,h=>by cases h
 | (k,x) :: l,t,v,h=>by
  unfold fzB at h
  rw [Az] at h ⊢
  split at h
  ·rename_i e;injection h with h;exact ⟨x,by rw [if_pos e],h.symm⟩
  ·rename_i e;rw [if_neg e];exact FW h
mutual
theorem RV.fz {nx o:Nat} {d:D} {G G':Gh} {w:World} {owf owf':Nat→Option Cb} {I:Cb} (hI:owf o=some I) (hd:I.d=d) (hZ:∀ k,G.Z k→G'.Z k) (hB:∀ k ∈ G.B o,G'.Z k) (hβ:G'.β=G.β)
  (ho:∀ q J,q≠o→owf' q=some J→owf q=some J∧G'.root q=G.root q∧G'.B q=G.B q) (hrep:AW w G'.Z d (G.root o)):∀ (v:AV) (u:Value),RV G w owf nx v u→RV G' w owf' nx (v.fz o d) u
 | .i n,u,h=>by unfold AV.fz;unfold RV at h ⊢; exact h
 | .b n,u,h=>by unfold AV.fz;unfold RV at h ⊢; exact h
 | .s n,u,h=>by unfold AV.fz;unfold RV at h ⊢; exact h
 | .y n,u,h=>by unfold AV.fz;unfold RV at h ⊢; exact h
 | .nl _,u,h=>by unfold AV.fz;unfold RV at h ⊢; exact h
 | .cl d,u,h=>by unfold AV.fz;unfold RV at h ⊢; exact ⟨h.1,AW.mono hZ (fun _ _=>rfl) _ _ h.2⟩
 | .x _,u,h=>by unfold AV.fz;unfold RV at h ⊢; exact h
 | .sl q,u,h=>by
  unfold AV.fz;unfold RV at h
  split
  ·rename_i e;subst e
   unfold RV;rw [h.2.2 I hI];exact hrep
  ·rename_i e
   unfold RV
   refine ⟨h.1,h.2.1,fun J hJ => ?_⟩
   obtain ⟨h1,h2,_⟩:=ho q J e hJ
   rw [h2];exact h.2.2 J h1
 | .sp q e,u,h=>by
  unfold AV.fz;unfold RV at h
  split
  ·rename_i e;subst e
   unfold RV;exact AW.mono (fun k hk=>hk.elim (hZ k) (hB k)) (fun _ _=>rfl) _ _ (h.2.2 I hI)
  ·rename_i e
   unfold RV
   refine ⟨h.1,h.2.1,fun J hJ => ?_⟩
   obtain ⟨h1,_,h3⟩:=ho q J e hJ
   rw [h3];exact AW.mono (fun k hk=>hk.imp (hZ k) id) (fun _ _=>rfl) _ _ (h.2.2 J h1)
 | .br e,u,h=>by unfold AV.fz;unfold RV at h ⊢; exact AW.mono hZ (fun _ _=>rfl) _ _ h
 | .bx b off,u,h=>by unfold AV.fz;unfold RV at h ⊢; rw [hβ];exact h
 | .eb e k off,u,h=>by
  unfold AV.fz;unfold RV at h ⊢
  obtain ⟨sz,n,cs,a,o0,len,cap,h1,h2,h3,h4⟩:=h
  exact ⟨sz,n,cs,a,o0,len,cap,h1,h2,AW.mono hZ (fun _ _=>rfl) _ _ h3,h4⟩
 | .eo q k off,u,h=>by
  unfold AV.fz;unfold RV at h
  split
  ·rename_i e;subst e
   obtain ⟨sz,n,cs,a,o0,len,cap,h1,h2,h3,h4⟩:=h.2.2 I hI
   unfold RV
   rw [h2] at hrep
   exact ⟨sz,n,cs,a,o0,len,cap,hd ▸ h1,h3,hrep,h4⟩
  ·rename_i e
   unfold RV
   refine ⟨h.1,h.2.1,fun J hJ => ?_⟩
   obtain ⟨h1,h2,_⟩:=ho q J e hJ
   rw [h2];exact h.2.2 J h1
 | .fn f cap,u,h=>by
  unfold AV.fz;unfold RV at h ⊢
  obtain ⟨us,e,h⟩:=h
  exact ⟨us,e,RVs.fz hI hd hZ hB hβ ho hrep cap us h⟩
 | .ag cs,u,h=>by
  unfold AV.fz;unfold RV at h ⊢
  obtain ⟨us,e,h⟩:=h
  exact ⟨us,e,RVs.fz hI hd hZ hB hβ ho hrep cs us h⟩
 | .tu cs,u,h=>by
  unfold AV.fz;unfold RV at h ⊢
  obtain ⟨us,e,h⟩:=h
  exact ⟨us,e,RVs.fz hI hd hZ hB hβ ho hrep cs us h⟩
 | .rp cs,u,h=>by
  unfold AV.fz;unfold RV at h ⊢
  obtain ⟨g,us,T,e,hg,hB',h⟩:=h
  exact ⟨g,us,T,e,hZ g hg,hB',RVs.fz hI hd hZ hB hβ ho hrep cs us h⟩
 | .un,u,h=>by unfold AV.fz;unfold RV;trivial
theorem RVs.fz {nx o:Nat} {d:D} {G G':Gh} {w:World} {owf owf':Nat→Option Cb} {I:Cb} (hI:owf o=some I) (hd:I.d=d) (hZ:∀ k,G.Z k→G'.Z k) (hB:∀ k ∈ G.B o,G'.Z k) (hβ:G'.β=G.β)
  (ho:∀ q J,q≠o→owf' q=some J→owf q=some J∧G'.root q=G.root q∧G'.B q=G.B q) (hrep:AW w G'.Z d (G.root o)):∀ (v:List AV) (u:List Value),RVs G w owf nx v u→RVs G' w owf' nx (AV.fzs o d v) u
 | [],u,h=>by unfold AV.fzs;unfold RVs at h ⊢; exact h
 | a :: l,u,h=>by
  unfold AV.fzs;unfold RVs at h ⊢
  obtain ⟨x,r,e,h1,h2⟩:=h
  exact ⟨x,r,e,RV.fz hI hd hZ hB hβ ho hrep a x h1,RVs.fz hI hd hZ hB hβ ho hrep l r h2⟩
end
theorem Res.z {w0:Aq} {Z Z':Nat→Prop} {w:World} {B:List Nat} {v:Value} {I:Cb} (h:Res w0 Z w B v I) (hZ:∀ k,Z k→Z' k) (hn:∀ k ∈ B,¬ Z' k):Res w0 Z' w B v I:=by
 obtain ⟨h1,h2,h3,h4⟩:=h
 refine ⟨fun k hk=>⟨⟨hn k hk,(h1 k hk).1.2⟩,(h1 k hk).2⟩,AW.mono (fun k hk=>hk.imp (hZ k) id) (fun _ _=>rfl) _ _ h2,h3,fun T hT => ?_⟩
 obtain ⟨sz,n,cs,vs,e,h5,h6,h7,h8⟩:=h4 T hT
 exact ⟨sz,n,cs,vs,e,h5,An.mono (fun k hk=>hk.imp (hZ k) id) (fun _ _=>rfl) _ _ h6,h7,h8⟩
theorem Rel.fz {w0:Aq} {G:Gh} {s:AS} {a:Act} {w:World} (h:Rel w0 G s a w) {o:Nat} {I:Cb} (hI:s.owf o=some I):Rel w0 { G with Z:=fun k=>G.Z k∨k ∈ G.B o } (s.fz o I.d) a w:=by
 obtain ⟨_,⟨hB,hrep,_,_⟩,hbo⟩:=h.own o I hI
 have howf:∀ q J,(s.fz o I.d).owf q=some J→q≠o∧s.owf q=some J:=fun q J hq=>by
  unfold AS.fz AS.owf at hq
  simp only [Az] at hq
  split at hq
  ·cases hq
  ·rename_i e;exact ⟨e,hq⟩
 have ho:∀ q J,q≠o→(s.fz o I.d).owf q=some J→s.owf q=some J∧G.root q=G.root q∧G.B q=G.B q:=fun q J _ hq=>⟨(howf q J hq).2,rfl,rfl⟩
 refine ⟨h.nt,h.df,fun t x ht => ?_,fun b cs hb => ?_,fun b b' c1 c2 hb hb' e => ?_,fun q J hq => ?_,fun q q' J J' hq hq' hne => ?_,h.bel,fun k hk=>hk.elim (h.zl k) fun hk=>(hB k hk).2,h.pb,fun k hk => .inl (h.zz.1 k hk),fun k hk=>hk.elim (h.zz.2 k) fun hk=>(hB k hk).1.2.elim (fun e => .inr (.inr e)) (fun e => .inr (.inl e))⟩
 ·obtain ⟨x',hx,rfl⟩:=Ox ht
  obtain ⟨u,hu,hr⟩:=h.tm t x' hx
  exact ⟨u,hu,RV.fz (G:=G) (G':={ G with Z:=fun k=>G.Z k∨k ∈ G.B o }) (owf:=s.owf) hI rfl (fun k hk => .inl hk) (fun k hk => .inr hk) rfl ho hrep x' u hr⟩
 ·obtain ⟨x',hx,rfl⟩:=FW hb
  obtain ⟨h1,h2,us,T,h3,h4⟩:=h.bx b x' hx
  exact ⟨h1,⟨fun hz=>hz.elim h2.1 (hbo b x' hx),h2.2⟩,us,T,h3,RVs.fz (G:=G) (G':={ G with Z:=fun k=>G.Z k∨k ∈ G.B o }) (owf:=s.owf) hI rfl (fun k hk => .inl hk) (fun k hk => .inr hk) rfl ho hrep x' us h4⟩
 ·obtain ⟨x1,hx1,_⟩:=FW hb
  obtain ⟨x2,hx2,_⟩:=FW hb'
  exact h.inj b b' x1 x2 hx1 hx2 e
 ·obtain ⟨hne,hq⟩:=howf q J hq
  obtain ⟨h1,h2,h3⟩:=h.own q J hq
  refine ⟨h1,h2.z (fun k hk => .inl hk) (fun k hk hz=>hz.elim (h2.1 k hk).1.1 fun hk'=>h.dis q o J I hq hI hne k hk hk'),fun b cs hb => ?_⟩
  obtain ⟨x',hx,_⟩:=FW hb
  exact h3 b x' hx
 ·exact h.dis q q' J J' (howf q J hq).2 (howf q' J' hq').2 hne
inductive CD where
 | o (d:D)
 | a (T:TypeId) (d:D)
 | q (T:TypeId) (d:D)
 | r (d:D)
 | k (d:D)
 | v (x:Value)
def Fl (w:World) (S:Nat→Prop):CD→Value→List Nat→List Nat→Prop
 | .o d,v,f,fw=>Ch w d v f∧fw=[]
 | .a T d,v,f,fw=>∃ sz n cs vs fp,d = .rows sz n cs∧Jq w T sz v n vs∧Ao w cs vs fp∧f=Cm v++fp∧(∀ u ∈ vs,u.oneCell'=true)∧fw=Cm v
 | .q T d,v,f,fw=>∃ sz n cs vs,d = .rows sz n cs∧Jq w T sz v n vs∧An w S cs vs∧f=Cm v∧(∀ u ∈ vs,u.oneCell'=true)∧fw=Cm v
 | .r d,v,f,fw=>AW w S d v∧f=[]∧fw=[]
 | .k d,v,f,fw=>((∃ a n,v = .slice a n n)∧AW w S d v)∧f=[]∧fw=[]
 | .v x,v,f,fw=>(v=x∧x.oneCell'=true)∧f=[]∧fw=[]
def BG (w:World) (S:Nat→Prop):List CD→List Value→List Nat→List Nat→Prop
 | [],vs,fp,fw=>vs=[]∧fp=[]∧fw=[]
 | c :: cs,vs,fp,fw=>∃ v r f g fw1 fw2,vs=v :: r∧fp=f++g∧fw=fw1++fw2∧Fl w S c v f fw1∧BG w S cs r g fw2
theorem BG.len {w:World} {S:Nat→Prop}:∀ {cs:List CD} {vs:List Value} {fp fw:List Nat},BG w S cs vs fp fw→vs.length=cs.length
 | [],vs,fp,fw,h=>by unfold BG at h;rw [h.1];rfl
 | c :: cs,vs,fp,fw,h=>by
  unfold BG at h
  obtain ⟨v,r,f,g,_,_,rfl,_,_,_,h2⟩:=h
  simp [BG.len h2]
def mkC:AS→List CD→List AV × AS
 | s,[]=>([],s)
 | s,c :: cs=>match c with
  | .o (.int n)=>let r:=mkC s cs; (.i n :: r.1,r.2)
  | .o (.bool n)=>let r:=mkC s cs; (.b n :: r.1,r.2)
  | .o (.str n)=>let r:=mkC s cs; (.s n :: r.1,r.2)
  | .o .any=>let r:=mkC s cs; (.un :: r.1,r.2)
  | .o (.byt n)=>let r:=mkC s cs; (.y n :: r.1,r.2)
  | .o (.rows sz n ds)=>let r:=mkC (s.mk' [] ⟨.rows sz n ds,none,true⟩) cs; (.sl s.nx :: r.1,r.2)
  | .a T d=>let r:=mkC (s.mk' [] ⟨d,some T,true⟩) cs; (.sl s.nx :: r.1,r.2)
  | .q T d=>let r:=mkC (s.mk' [] ⟨d,some T,false⟩) cs; (.sl s.nx :: r.1,r.2)
  | .r d=>let r:=mkC s cs; (avB d :: r.1,r.2)
  | .k d=>let r:=mkC s cs; (.cl d :: r.1,r.2)
  | .v x=>let r:=mkC s cs; (.x x :: r.1,r.2)
theorem Rel.new {w0:Aq} {G:Gh} {s:AS} {a:Act} {w:World} (h:Rel w0 G s a w) {I:Cb} {B:List Nat} {v:Value} (hR:Res w0 G.Z w B v I) (hone:v.oneCell'=true)
  (hf:∀ k ∈ B,(∀ b cs,AO s.bx b=some cs→G.β b≠k)∧∀ o J,s.owf o=some J→k ∉ G.B o) :
  Rel w0 (G.own s.nx B v) (s.mk' [] I) a w∧RV (G.own s.nx B v) w (s.mk' [] I).owf (s.mk' [] I).nx (.sl s.nx) v∧∀ x u,RV G w s.owf s.nx x u→RV (G.own s.nx B v) w (s.mk' [] I).owf (s.mk' [] I).nx x u:=by
 obtain ⟨h3,h4⟩:=h.own' (w':=w) (eats:=[]) (I:=I) h.bel (Nat.le_refl _) (fun _ _ _=>rfl) hR hone (fun b cs' hl hk=>(hf _ hk).1 b cs' hl rfl)
  (fun o J ho _ k hk hk'=>(hf k hk').2 o J ho hk)
 refine ⟨h3,h4,fun x u hx => ?_⟩
 refine RV.turn (G:=G) (G':=G.own s.nx B v) (owf:=s.owf) (owf':=(s.mk' [] I).owf) (nx:=s.nx) (Nat.le_succ _) (fun _ hk=>⟨hk,rfl⟩) (fun _ _=>rfl) (fun o J ho hJ => ?_) x u hx
 have hne:o≠s.nx:=Nat.ne_of_lt ho
 rw [FH,if_neg hne,if_neg (by simp)] at hJ
 exact ⟨hJ,AQ _ _ hne,AQ _ _ hne,fun _ _=>rfl⟩
theorem Ud {w:World} {sz n:Nat} {T:TypeId} {v:Value} {vs:List Value} (h:Jq w T sz v n vs):v.oneCell'=true:=by
 obtain ⟨a,c,rfl,_⟩:=BW h
 rfl
theorem Jr {w0 : Aq} {a : Act} {w : World} {S : Nat → Prop} : ∀ (cs : List CD) (us : List Value) (fp fw : List Nat) (G : Gh) (s : AS), Rel w0 G s a w → BG w S cs us fp fw → (∀ k, S k → G.Z k) → fp.Nodup → (∀ k ∈ fp, ¬ G.Z k ∧ (w0.heap.size ≤ k ∨ w0.mv k)) → (∀ k ∈ fw, w0.heap.size ≤ k ∨ w0.wr k) →
    (∀ k ∈ fp, (∀ b cs, AO s.bx b = some cs → G.β b ≠ k) ∧ ∀ o I, s.owf o = some I → k ∉ G.B o) →
    ∃ G', Rel w0 G' (mkC s cs).2 a w ∧ RVs G' w (mkC s cs).2.owf (mkC s cs).2.nx (mkC s cs).1 us ∧ (∀ v u, RV G w s.owf s.nx v u → RV G' w (mkC s cs).2.owf (mkC s cs).2.nx v u) ∧ G'.Z = G.Z ∧
      (mkC s cs).2.bx = s.bx ∧ (mkC s cs).2.pb = s.pb ∧ s.nx ≤ (mkC s cs).2.nx ∧ (∀ b, b < s.nx → G'.β b = G.β b) ∧ ∀ o I, (mkC s cs).2.owf o = some I → (s.owf o = some I ∧ G'.B o = G.B o) ∨ ∀ k ∈ G'.B o, k ∈ fp
  | [], us, fp, fw, G, s, h, ho, hS, hn, hb, hw, hf => by
    unfold BG at ho
    obtain ⟨rfl, rfl, rfl⟩ := ho
    exact ⟨G, h, by unfold mkC RVs; rfl, fun v u hv => hv, rfl, rfl, rfl, Nat.le_refl _, fun _ _ => rfl, fun o I ho => .inl ⟨ho, rfl⟩⟩
  | c :: cs, us, fp, fw, G, s, h, ho, hS, hn, hb, hw, hf => by
    unfold BG at ho
    obtain ⟨v, r, f1, f2, fw1, fw2, rfl, rfl, rfl, h1, h2⟩ := ho
    obtain ⟨n1, n2, n3⟩ := List.nodup_append.1 hn
    have prim : ∀ (av : AV), (∀ {G' : Gh} {nx owf}, (∀ k, S k → G'.Z k) → RV G' w owf nx av v) → mkC s (c :: cs) = (av :: (mkC s cs).1, (mkC s cs).2) → ∃ G', Rel w0 G' (mkC s (c :: cs)).2 a w ∧ RVs G' w (mkC s (c :: cs)).2.owf (mkC s (c :: cs)).2.nx (mkC s (c :: cs)).1 (v :: r) ∧ (∀ v u, RV G w s.owf s.nx v u → RV G' w (mkC s (c :: cs)).2.owf (mkC s (c :: cs)).2.nx v u) ∧ G'.Z = G.Z ∧
        (mkC s (c :: cs)).2.bx = s.bx ∧ (mkC s (c :: cs)).2.pb = s.pb ∧ s.nx ≤ (mkC s (c :: cs)).2.nx ∧ (∀ b, b < s.nx → G'.β b = G.β b) ∧ ∀ o I, (mkC s (c :: cs)).2.owf o = some I → (s.owf o = some I ∧ G'.B o = G.B o) ∨ ∀ k ∈ G'.B o, k ∈ f1 ++ f2 := by
      intro av hav e
      obtain ⟨G', h3, h4, h5, h6, h7, h8, h9, h10, h11⟩ := Jr cs r f2 fw2 G s h h2 hS n2 (fun k hk => hb k (by simp [hk])) (fun k hk => hw k (by simp [hk])) (fun k hk => hf k (by simp [hk]))
      rw [e]
      exact ⟨G', h3, by unfold RVs; exact ⟨v, r, rfl, hav (fun k hk => by rw [h6]; exact hS k hk), h4⟩, h5, h6, h7, h8, h9, h10, fun o I ho => (h11 o I ho).imp id fun h k hk => List.mem_append.2 (.inr (h k hk))⟩
    have big : ∀ (I : Cb), Res w0 G.Z w f1 v I → v.oneCell' = true → mkC s (c :: cs) = (.sl s.nx :: (mkC (s.mk' [] I) cs).1, (mkC (s.mk' [] I) cs).2) → ∃ G', Rel w0 G' (mkC s (c :: cs)).2 a w ∧ RVs G' w (mkC s (c :: cs)).2.owf (mkC s (c :: cs)).2.nx (mkC s (c :: cs)).1 (v :: r) ∧ (∀ v u, RV G w s.owf s.nx v u → RV G' w (mkC s (c :: cs)).2.owf (mkC s (c :: cs)).2.nx v u) ∧ G'.Z = G.Z ∧
        (mkC s (c :: cs)).2.bx = s.bx ∧ (mkC s (c :: cs)).2.pb = s.pb ∧ s.nx ≤ (mkC s (c :: cs)).2.nx ∧ (∀ b, b < s.nx → G'.β b = G.β b) ∧ ∀ o I, (mkC s (c :: cs)).2.owf o = some I → (s.owf o = some I ∧ G'.B o = G.B o) ∨ ∀ k ∈ G'.B o, k ∈ f1 ++ f2 := by
      intro I hR hone e
      obtain ⟨h3, h4, hkeep⟩ := h.new hR hone (fun k hk => hf k (by simp [hk]))
      obtain ⟨G', h5, h6, h7, h8, h9, h10, h11, h12, h13⟩ := Jr cs r f2 fw2 (G.own s.nx f1 v) _ h3 h2 hS n2 (fun k hk => hb k (by simp [hk])) (fun k hk => hw k (by simp [hk])) (fun k hk => by
        obtain ⟨q1, q2⟩ := hf k (by simp [hk])
        refine ⟨q1, fun o J ho => ?_⟩
        by_cases hne : o = s.nx
        · subst hne
          simp only [Gh.own, Bu]
          exact fun hk' => n3 k hk' k hk rfl
        · rw [FH, if_neg hne, if_neg (by simp)] at ho
          simp only [Gh.own, AQ _ _ hne]
          exact q2 o J ho)
      rw [e]
      refine ⟨G', h5, by unfold RVs; exact ⟨v, r, rfl, h7 _ _ h4, h6⟩, fun x u hx => h7 _ _ (hkeep x u hx), h8, h9, h10, Nat.le_trans (Nat.le_succ _) h11, fun b hb' => h12 b (Nat.lt_succ_of_lt hb'), fun o J ho => ?_⟩
      rcases h13 o J ho with ⟨q1, q2⟩ | q1
      · by_cases hne : o = s.nx
        · subst hne
          refine .inr fun k hk => ?_
          rw [q2] at hk
          simp only [Gh.own, Bu] at hk
          exact List.mem_append.2 (.inl hk)
        · rw [FH, if_neg hne, if_neg (by simp)] at q1
          exact .inl ⟨q1, by rw [q2]; simp only [Gh.own, AQ _ _ hne]⟩
      · exact .inr fun k hk => List.mem_append.2 (.inr (q1 k hk))
    cases c with
    | o d =>
      unfold Fl at h1
      obtain ⟨h1, _⟩ := h1
      cases d with
      | int n => unfold Ch at h1; exact prim (.i n) (fun _ => by unfold RV; exact h1.1) rfl
      | bool n => unfold Ch at h1; exact prim (.b n) (fun _ => by unfold RV; exact h1.1) rfl
      | str n => unfold Ch at h1; exact prim (.s n) (fun _ => by unfold RV; exact h1.1) rfl
      | any => unfold Ch at h1; exact prim .un (fun _ => by unfold RV; trivial) rfl
      | byt n => unfold Ch at h1; exact prim (.y n) (fun _ => by unfold RV; exact h1.1) rfl
      | rows sz n ds =>
        have hlt := Ch.lt _ _ _ h1
        exact big ⟨.rows sz n ds, none, true⟩ ⟨fun k hk => ⟨hb k (by simp [hk]), hlt k hk⟩, Ch.p _ _ _ h1 (fun k hk => .inr hk), fun _ => ⟨h1, n1⟩, fun T hT => by cases hT⟩ h1.one rfl
    | a T d =>
      unfold Fl at h1
      obtain ⟨sz, n, ds, vs, fp, rfl, hrow, hown, rfl, hones, rfl⟩ := h1
      obtain ⟨a2, cap2, ev, q1, q2, hrw, _⟩ := BW hrow
      have hlt := Ao.lt _ _ _ hown
      obtain ⟨m1, m2, m3⟩ := List.nodup_append.1 n1
      exact big ⟨.rows sz n ds, some T, true⟩ ⟨fun k hk => ⟨hb k (by simp at hk ⊢; rcases hk with hk | hk <;> simp [hk]), by
          rcases List.mem_append.1 hk with hk | hk
          · exact (hrw k hk).1
          · exact hlt k hk⟩, GK hrow (Ao.p _ _ _ hown (fun k hk => .inr (by simp [hk]))) (fun k hk => .inr (by simp [hk])), fun _ => ⟨Kx hrow hown, n1⟩, fun T' hT => by
          simp only [Option.some.injEq] at hT
          subst hT
          exact ⟨sz, n, ds, vs, rfl, hrow, Ao.p _ _ _ hown (fun k hk => .inr ⟨by simp [hk], fun hk' => m3 k hk' k hk rfl⟩), fun k hk => ⟨by simp [hk], hw k (by simp [hk])⟩, hones, fun _ => ⟨fp, hown, m2, fun k hk => ⟨by simp [hk], fun hk' => m3 k hk' k hk rfl⟩⟩⟩⟩ (Ud hrow) rfl
    | q T d =>
      unfold Fl at h1
      obtain ⟨sz, n, ds, vs, rfl, hrow, hrp, rfl, hones, rfl⟩ := h1
      obtain ⟨a2, cap2, ev, q1, q2, hrw, _⟩ := BW hrow
      exact big ⟨.rows sz n ds, some T, false⟩ ⟨fun k hk => ⟨hb k (by simp [hk]), (hrw k hk).1⟩, GK hrow (An.mono (fun k hk => .inl (hS k hk)) (fun _ _ => rfl) _ _ hrp) (fun k hk => .inr hk), fun e => by simp at e, fun T' hT => by
          simp only [Option.some.injEq] at hT
          subst hT
          exact ⟨sz, n, ds, vs, rfl, hrow, An.mono (fun k hk => .inl (hS k hk)) (fun _ _ => rfl) _ _ hrp, fun k hk => ⟨hk, hw k (by simp [hk])⟩, hones, fun e => by simp at e⟩⟩ (Ud hrow) rfl
    | r d =>
      unfold Fl at h1
      obtain ⟨h1, rfl, rfl⟩ := h1
      exact prim (avB d) (fun hz => JC (AW.mono hz (fun _ _ => rfl) _ _ h1)) rfl
    | k d =>
      unfold Fl at h1
      obtain ⟨⟨h0, h1⟩, rfl, rfl⟩ := h1
      exact prim (.cl d) (fun hz => by unfold RV; exact ⟨h0, AW.mono hz (fun _ _ => rfl) _ _ h1⟩) rfl
    | v x =>
      unfold Fl at h1
      obtain ⟨h1, rfl, rfl⟩ := h1
      exact prim (.x x) (fun hz => by unfold RV; exact h1) rfl
inductive PA where
 | b (p:PD)
 | m (c:CD)
 | g (cs:List CD)
 | p (cs:List CD)
 | f (F:FuncId) (caps:List PA)
mutual
def DK (w:World) (S:Nat→Prop):PA→Value→List Nat→List Nat→Prop
 | .b p,v,f,fw=>FO w S p v∧f=[]∧fw=[]
 | .m c,v,f,fw=>Fl w S c v f fw
 | .g cs,v,f,fw=>∃ vs,v = .agg vs.toArray∧BG w S cs vs f fw
 | .p cs,v,f,fw=>∃ g T us f' fw',v = .pointer (some ⟨g,0,none⟩)∧Blk w g T us.toArray∧BG w S cs us f' fw'∧f=g :: f'∧fw=g :: fw'
 | .f F caps,v,f,fw=>∃ us,v = .func (.func F) #[] us.toArray∧Cu w S caps us f fw
def Cu (w:World) (S:Nat→Prop):List PA→List Value→List Nat→List Nat→Prop
 | [],us,fp,fw=>us=[]∧fp=[]∧fw=[]
 | p :: ps,us,fp,fw=>∃ v r f g fw1 fw2,us=v :: r∧fp=f++g∧fw=fw1++fw2∧DK w S p v f fw1∧Cu w S ps r g fw2
end
theorem Cu.len {w:World} {S:Nat→Prop}:∀ {ps:List PA} {us:List Value} {fp fw:List Nat},Cu w S ps us fp fw→us.length=ps.length
 | [],us,fp,fw,h=>by unfold Cu at h;rw [h.1];rfl
 | p :: ps,us,fp,fw,h=>by
  unfold Cu at h
  obtain ⟨v,r,f,g,_,_,rfl,_,_,_,h2⟩:=h
  simp [Cu.len h2]
def Wc:Value→List Nat
 | .pointer (some a)=>[a.block]
 | _=>[]
def RF:Value→List Value
 | .func _ _ us=>us.toList
 | _=>[]
mutual
def ptr:PA→Value→List Nat
 | .p _,v=>Wc v
 | .f _ caps,v=>FL caps (RF v)
 | _,_=>[]
def FL:List PA→List Value→List Nat
 | p :: ps,us=>ptr p (us.headD undef)++FL ps us.tail
 | [],_=>[]
end
inductive RD where
 | one (c:CD)
 | ag (cs:List CD)
def Br:List RD→List CD
 | []=>[]
 | .one d :: r=>d :: Br r
 | .ag ds :: r=>ds++Br r
def Fq:List RD→List Value→List Value
 | [],_=>[]
 | .one _ :: r,us=>us.headD undef :: Fq r us.tail
 | .ag ds :: r,us => .agg (us.take ds.length).toArray :: Fq r (us.drop ds.length)
def BN:List RD→List AV→List AV
 | [],_=>[]
 | .one _ :: r,us=>us.headD .un :: BN r us.tail
 | .ag ds :: r,us => .ag (us.take ds.length) :: BN r (us.drop ds.length)
def FM (w:World) (S:Nat→Prop):List Nat→List (List CD)→List Nat→List Nat→Prop
 | [],[],fo,fw=>fo=[]∧fw=[]
 | g :: gs,cs :: outs,fo,fw=>∃ T us f1 f2 fw1 fw2,Blk w g T us.toArray∧BG w S cs us f1 fw1∧fo=g :: (f1++f2)∧fw=fw1++fw2∧FM w S gs outs f2 fw2
 | _,_,_,_=>False
def Bc (P : Program) (f : FuncId) (args : List PA) (outs : List (List CD)) (rs : List RD) : Prop :=
  (∃ fn, P.funcs[f]? = some fn ∧ fn.body.isNone = false ∧ (fn.name == "runtime.NumGoroutine") = false) ∧
  ∀ w us fp fw S, GI w → (∀ k ∈ GBl, S k) → (∀ k, S k → k < w.heap.size ∧ k ∉ fp) → Cu w S args us fp fw → fp.Nodup → Calls P f us.toArray w fun e w' => Bel (· ∈ fp) w w' ∧ ∃ S' vs f1 f2 fw1 fw2,
    ((∀ k, S k → S' k) ∧ (∀ k, S' k → S k ∨ k ∈ fp ∨ w.heap.size ≤ k) ∧ ∀ k, S' k → k < w'.heap.size ∧ k ∉ f1 ++ f2) ∧ e = .returned (Nf (Fq rs vs)) ∧ BG w' S' (Br rs) vs f1 fw1 ∧ FM w' S' (FL args us) outs f2 fw2 ∧
    (f1 ++ f2).Nodup ∧ (∀ k ∈ f1 ++ f2, k < w'.heap.size ∧ (k ∈ fp ∨ w.heap.size ≤ k)) ∧ ∀ k ∈ fw1 ++ fw2, k ∈ fp ∨ w.heap.size ≤ k
mutual
def EN:AS→PA→AV × AS
 | s,.b p=>(Uq p,s)
 | s,.m c=>let r:=mkC s [c]; (r.1.headD .un,r.2)
 | s,.g cs=>let r:=mkC s cs; (.ag r.1,r.2)
 | s,.p cs=>let r:=mkC s cs; (.bx r.2.nx 0,{ r.2.box r.1 with pb:=r.2.pb++[r.2.nx] })
 | s,.f F caps=>let r:=Gx s caps; (.fn F r.1,r.2)
def Gx:AS→List PA→List AV × AS
 | s,[]=>([],s)
 | s,p :: ps=>let r:=EN s p;let q:=Gx r.2 ps; (r.1 :: q.1,q.2)
end
theorem Rel.boxat {w0:Aq} {G:Gh} {s:AS} {a:Act} {w:World} (h:Rel w0 G s a w) {cs:List AV} {us:List Value} {T:TypeId} {g:Nat} (hr:RVs G w s.owf s.nx cs us) (hB:Blk w g T us.toArray) (hz:¬ G.Z g∧(w0.heap.size≤g∨w0.wr g))
  (hnb:∀ b cs,AO s.bx b=some cs→G.β b≠g) (hno:∀ o I,s.owf o=some I→g ∉ G.B o) (hp:w0.pb s.pb.length=g) (hpv:w0.pv s.pb.length=none) :
  Rel w0 (G.box s.nx g) { s.box cs with pb:=s.pb++[s.nx] } a w∧RV (G.box s.nx g) w { s.box cs with pb:=s.pb++[s.nx] }.owf { s.box cs with pb:=s.pb++[s.nx] }.nx (.bx s.nx 0) (.pointer (some ⟨g,0,none⟩)) ∧
   ∀ x u,RV G w s.owf s.nx x u→RV (G.box s.nx g) w { s.box cs with pb:=s.pb++[s.nx] }.owf { s.box cs with pb:=s.pb++[s.nx] }.nx x u:=by
 have hβ:∀ b,b<s.nx→(G.box s.nx g).β b=G.β b:=fun b hb=>AQ _ _ (Nat.ne_of_lt hb)
 have hturn:∀ o I',o<s.nx→(s.box cs).owf o=some I'→s.owf o=some I'∧(G.box s.nx g).root o=G.root o∧(G.box s.nx g).B o=G.B o∧∀ k ∈ G.B o,w.heap[k]? = w.heap[k]? := fun o I' hlt ho=>⟨ho,rfl,rfl,fun k _=>rfl⟩
 have hnx:(s.box cs).nx=s.nx+1:=rfl
 have hkeep:∀ x u,RV G w s.owf s.nx x u→RV (G.box s.nx g) w (s.box cs).owf (s.box cs).nx x u:=fun x u hx=>RV.turn (G:=G) (G':=G.box s.nx g) (by rw [hnx];omega) (fun k hk=>⟨hk,rfl⟩) hβ hturn x u hx
 have hkeeps:∀ x u,RVs G w s.owf s.nx x u→RVs (G.box s.nx g) w (s.box cs).owf (s.box cs).nx x u:=fun x u hx=>RVs.turn (G:=G) (G':=G.box s.nx g) (by rw [hnx];omega) (fun k hk=>⟨hk,rfl⟩) hβ hturn x u hx
 refine ⟨⟨h.nt,h.df,fun t x ht => ?_,fun b cs' hb => ?_,fun b b' cs1 cs2 hb hb' e => ?_,fun o I' ho => ?_,h.dis,h.bel,h.zl,fun i b hb => ?_,h.zz⟩, ?_,hkeep⟩
 ·obtain ⟨u,hu,hr'⟩:=h.tm t x ht
  exact ⟨u,hu,hkeep x u hr'⟩
 ·unfold AS.box AO at hb
  split at hb
  ·rename_i e
   subst e
   injection hb with hb
   subst hb
   refine ⟨by show s.nx<s.nx+1;omega, ?_,us,T, ?_,hkeeps _ _ hr⟩
   ·simp only [Gh.box,Bu];exact hz
   ·simp only [Gh.box,Bu];exact hB
  ·rename_i hne
   obtain ⟨h1,h2,us',T',h3,h4⟩:=h.bx b cs' hb
   refine ⟨by show b<s.nx+1;omega, ?_,us',T', ?_,hkeeps _ _ h4⟩
   ·simp only [Gh.box,AQ _ _ hne];exact h2
   ·simp only [Gh.box,AQ _ _ hne];exact h3
 ·unfold AS.box AO at hb hb'
  by_cases e1:b=s.nx
  ·by_cases e2:b'=s.nx
   ·rw [e1,e2]
   ·rw [if_neg e2] at hb'
    subst e1
    simp only [Gh.box,Bu,AQ _ _ e2] at e
    exact absurd e.symm (hnb b' cs2 hb')
  ·rw [if_neg e1] at hb
   by_cases e2:b'=s.nx
   ·subst e2
    simp only [Gh.box,Bu,AQ _ _ e1] at e
    exact absurd e (hnb b cs1 hb)
   ·rw [if_neg e2] at hb'
    simp only [Gh.box,AQ _ _ e1,AQ _ _ e2] at e
    exact h.inj b b' cs1 cs2 hb hb' e
 ·obtain ⟨h1,h2,h3⟩:=h.own o I' ho
  refine ⟨by show o<s.nx+1;omega,h2,fun b cs' hb => ?_⟩
  unfold AS.box AO at hb
  split at hb
  ·rename_i e
   subst e
   simp only [Gh.box,Bu]
   exact hno o I' ho
  ·rename_i hne
   simp only [Gh.box,AQ _ _ hne]
   exact h3 b cs' hb
 ·simp only at hb
  rw [List.getElem?_append] at hb
  split at hb
  ·obtain ⟨q1,q2⟩:=h.pb i b hb
   exact ⟨by show b<s.nx+1;omega,q2.1.trans (hβ b q1).symm,q2.2⟩
  ·rename_i hi
   have:i-s.pb.length=0:=by
    rcases Nat.eq_zero_or_pos (i-s.pb.length) with e | e
    ·exact e
    ·rw [List.getElem?_eq_none (by simp;omega)] at hb;cases hb
   rw [this] at hb
   simp at hb
   subst hb
   have hi':i=s.pb.length:=by omega
   exact ⟨by show s.nx<s.nx+1;omega,by rw [hi',hp];simp only [Gh.box,Bu],fun v hv=>by rw [hi',hpv] at hv;cases hv⟩
 ·unfold RV
  exact ⟨by show s.nx<s.nx+1;omega,by simp only [Gh.box,Bu]⟩
structure YY (w0:Aq) (G G':Gh) (s s':AS) (a:Act) (w:World) (fp:List Nat) (np:Nat):Prop where
 rel:Rel w0 G' s' a w
 keep:∀ v u,RV G w s.owf s.nx v u→RV G' w s'.owf s'.nx v u
 z:G'.Z=G.Z
 pb:s'.pb.length=s.pb.length+np
 ow:∀ o I,s'.owf o=some I→(s.owf o=some I∧G'.B o=G.B o)∨∀ k ∈ G'.B o,k ∈ fp
 bx:∀ b cs,AO s'.bx b=some cs→(AO s.bx b=some cs∧G'.β b=G.β b)∨G'.β b ∈ fp
theorem YY.trans {w0:Aq} {G G1 G2:Gh} {s s1 s2:AS} {a:Act} {w:World} {f1 f2:List Nat} {n1 n2:Nat} (h:YY w0 G G1 s s1 a w f1 n1) (k:YY w0 G1 G2 s1 s2 a w f2 n2):YY w0 G G2 s s2 a w (f1++f2) (n1+n2):=by
 refine ⟨k.rel,fun v u hv=>k.keep v u (h.keep v u hv),k.z.trans h.z,by rw [k.pb,h.pb,Nat.add_assoc],fun o I ho => ?_,fun b cs hb => ?_⟩
 ·rcases k.ow o I ho with ⟨q1,q2⟩ | q
  ·rcases h.ow o I q1 with ⟨q3,q4⟩ | q
   ·exact .inl ⟨q3,q2.trans q4⟩
   ·exact .inr fun x hx=>List.mem_append.2 (.inl (q x (q2 ▸ hx)))
  ·exact .inr fun x hx=>List.mem_append.2 (.inr (q x hx))
 ·rcases k.bx b cs hb with ⟨q1,q2⟩ | q
  ·rcases h.bx b cs q1 with ⟨q3,q4⟩ | q
   ·exact .inl ⟨q3,q2.trans q4⟩
   ·exact .inr (List.mem_append.2 (.inl (q2 ▸ q)))
  ·exact .inr (List.mem_append.2 (.inr q))
theorem Sm {w0:Aq} {a:Act} {w:World} {S:Nat→Prop} {cs:List CD} {us:List Value} {fp fw:List Nat} {G:Gh} {s:AS} (h:Rel w0 G s a w) (ho:BG w S cs us fp fw) (hS:∀ k,S k→G.Z k) (hn:fp.Nodup) (hb:∀ k ∈ fp,¬ G.Z k∧(w0.heap.size≤k∨w0.mv k)) (hw:∀ k ∈ fw,w0.heap.size≤k∨w0.wr k)
  (hf:∀ k ∈ fp,(∀ b cs,AO s.bx b=some cs→G.β b≠k)∧∀ o I,s.owf o=some I→k ∉ G.B o) :
  ∃ G',YY w0 G G' s (mkC s cs).2 a w fp 0∧RVs G' w (mkC s cs).2.owf (mkC s cs).2.nx (mkC s cs).1 us:=by
 obtain ⟨G',h1,h2,h3,h4,h5,h6,h7,h8,h9⟩:=Jr cs us fp fw G s h ho hS hn hb hw hf
 refine ⟨G',⟨h1,h3,h4,by rw [h6];rfl,h9,fun b cs' hb' => ?_⟩,h2⟩
 rw [h5] at hb'
 exact .inl ⟨hb',h8 b (h.bx b cs' hb').1⟩
mutual
theorem YT {w0:Aq} {a:Act} {w:World} {S:Nat→Prop} (hpv:∀ i,w0.pv i=none):∀ (p:PA) (v:Value) (fp fw:List Nat) (G:Gh) (s:AS),Rel w0 G s a w→DK w S p v fp fw→G.Z=S→fp.Nodup→(∀ k ∈ fp,¬ G.Z k∧(w0.heap.size≤k∨w0.mv k))→(∀ k ∈ fw,w0.heap.size≤k∨w0.wr k) →
  (∀ k ∈ fp,(∀ b cs,AO s.bx b=some cs→G.β b≠k)∧∀ o I,s.owf o=some I→k ∉ G.B o)→(∀ i g,(ptr p v)[i]? = some g→w0.pb (s.pb.length+i)=g) →
  ∃ G',YY w0 G G' s (EN s p).2 a w fp (ptr p v).length∧RV G' w (EN s p).2.owf (EN s p).2.nx (EN s p).1 v
 | .b p,v,fp,fw,G,s,h,ho,hS,hn,hb,hw,hf,hp=>by
  unfold DK at ho
  obtain ⟨h1,rfl,rfl⟩:=ho
  refine ⟨G,⟨by unfold EN;exact h,fun v u hv=>by unfold EN;exact hv,rfl,by unfold EN ptr;rfl,fun o I ho => .inl ⟨by unfold EN at ho;exact ho,rfl⟩,fun b cs hb => .inl ⟨by unfold EN at hb;exact hb,rfl⟩⟩, ?_⟩
  unfold EN
  exact Nz (hS ▸ h1)
 | .m c,v,fp,fw,G,s,h,ho,hS,hn,hb,hw,hf,hp=>by
  unfold DK at ho
  obtain ⟨G',h1,h2⟩:=Sm (cs:=[c]) (us:=[v]) h (by unfold BG BG;exact ⟨v,[],fp,[],fw,[],rfl,by simp,by simp,ho,rfl,rfl,rfl⟩) (fun k hk=>hS ▸ hk) hn hb hw hf
  refine ⟨G', ?_, ?_⟩
  ·unfold EN ptr;exact h1
  ·unfold EN
   simp only
   cases hm:(mkC s [c]).1 with
   | nil=>rw [hm] at h2;unfold RVs at h2;cases h2
   | cons x r =>
    rw [hm] at h2
    unfold RVs at h2
    obtain ⟨u,q,e,h3,_⟩:=h2
    injection e with e1 e2
    subst e1
    exact h3
 | .g cs,v,fp,fw,G,s,h,ho,hS,hn,hb,hw,hf,hp=>by
  unfold DK at ho
  obtain ⟨vs,rfl,ho⟩:=ho
  obtain ⟨G',h1,h2⟩:=Sm h ho (fun k hk=>hS ▸ hk) hn hb hw hf
  refine ⟨G', ?_, ?_⟩
  ·unfold EN ptr;exact h1
  ·unfold EN RV;exact ⟨vs,rfl,h2⟩
 | .p cs,v,fp,fw,G,s,h,ho,hS,hn,hb,hw,hf,hp=>by
  unfold DK at ho
  obtain ⟨g,T,us,f',fw',rfl,hB,ho,rfl,rfl⟩:=ho
  obtain ⟨n1,n2⟩:=List.nodup_cons.1 hn
  obtain ⟨G1,h1,h2⟩:=Sm h ho (fun k hk=>hS ▸ hk) n2 (fun k hk=>hb k (by simp [hk])) (fun k hk=>hw k (by simp [hk])) (fun k hk=>hf k (by simp [hk]))
  have hg:=hf g (by simp)
  have hpl:(mkC s cs).2.pb.length=s.pb.length:=by rw [h1.pb];rfl
  obtain ⟨h3,h4,h5⟩:=h1.rel.boxat (g:=g) h2 hB ⟨by rw [h1.z];exact (hb g (by simp)).1,hw g (by simp)⟩ (fun b cs' hb' e=>by
    rcases h1.bx b cs' hb' with ⟨q1,q2⟩ | q
    ·exact hg.1 b cs' q1 (q2 ▸ e)
    ·exact n1 (e ▸ q)) (fun o I hI hk=>by
    rcases h1.ow o I hI with ⟨q1,q2⟩ | q
    ·exact hg.2 o I q1 (q2 ▸ hk)
    ·exact n1 (q g hk)) (by rw [hpl];exact hp 0 g (by unfold ptr Wc;rfl)) (hpv _)
  refine ⟨G1.box (mkC s cs).2.nx g,⟨by unfold EN;exact h3,fun v u hv=>by unfold EN;exact h5 v u (h1.keep v u hv),h1.z, ?_,fun o I hI => ?_,fun b cs' hb' => ?_⟩,by unfold EN;exact h4⟩
  ·unfold EN ptr Wc;simp [hpl]
  ·unfold EN at hI
   rcases h1.ow o I hI with ⟨q1,q2⟩ | q
   ·exact .inl ⟨q1,q2⟩
   ·exact .inr fun k hk=>by simp [q k hk]
  ·unfold EN at hb'
   simp only [AS.box,Az] at hb'
   split at hb'
   ·rename_i e
    subst e
    refine .inr ?_
    simp only [Gh.box,Bu];simp
   ·rename_i hne
    rcases h1.bx b cs' hb' with ⟨q1,q2⟩ | q
    ·exact .inl ⟨q1,by simp only [Gh.box,AQ _ _ hne];exact q2⟩
    ·exact .inr (by simp only [Gh.box,AQ _ _ hne];simp [q])
 | .f F caps,v,fp,fw,G,s,h,ho,hS,hn,hb,hw,hf,hp=>by
  unfold DK at ho
  obtain ⟨us,rfl,ho⟩:=ho
  obtain ⟨G',h1,h2⟩:=JV hpv caps us fp fw G s h ho hS hn hb hw hf (fun i g hi=>hp i g (by unfold ptr RF;simpa using hi))
  refine ⟨G', ?_, ?_⟩
  ·unfold EN ptr RF;simpa using h1
  ·unfold EN RV;exact ⟨us,rfl,h2⟩
theorem JV {w0:Aq} {a:Act} {w:World} {S:Nat→Prop} (hpv:∀ i,w0.pv i=none):∀ (ps:List PA) (us:List Value) (fp fw:List Nat) (G:Gh) (s:AS),Rel w0 G s a w→Cu w S ps us fp fw→G.Z=S→fp.Nodup→(∀ k ∈ fp,¬ G.Z k∧(w0.heap.size≤k∨w0.mv k))→(∀ k ∈ fw,w0.heap.size≤k∨w0.wr k) →
  (∀ k ∈ fp,(∀ b cs,AO s.bx b=some cs→G.β b≠k)∧∀ o I,s.owf o=some I→k ∉ G.B o)→(∀ i g,(FL ps us)[i]? = some g→w0.pb (s.pb.length+i)=g) →
  ∃ G',YY w0 G G' s (Gx s ps).2 a w fp (FL ps us).length∧RVs G' w (Gx s ps).2.owf (Gx s ps).2.nx (Gx s ps).1 us
 | [],us,fp,fw,G,s,h,ho,hS,hn,hb,hw,hf,hp=>by
  unfold Cu at ho
  obtain ⟨rfl,rfl,rfl⟩:=ho
  refine ⟨G,⟨by unfold Gx;exact h,fun v u hv=>by unfold Gx;exact hv,rfl,by unfold Gx FL;rfl,fun o I ho => .inl ⟨by unfold Gx at ho;exact ho,rfl⟩,fun b cs hb => .inl ⟨by unfold Gx at hb;exact hb,rfl⟩⟩, ?_⟩
  unfold Gx RVs
  rfl
 | p :: ps,us,fp,fw,G,s,h,ho,hS,hn,hb,hw,hf,hp=>by
  unfold Cu at ho
  obtain ⟨v,r,f1,f2,fw1,fw2,rfl,rfl,rfl,h1,h2⟩:=ho
  obtain ⟨n1,n2,n3⟩:=List.nodup_append.1 hn
  have hpt:FL (p :: ps) (v :: r)=ptr p v++FL ps r:=by rw [FL];rfl
  rw [hpt] at hp
  obtain ⟨G1,h3,h4⟩:=YT hpv p v f1 fw1 G s h h1 hS n1 (fun k hk=>hb k (by simp [hk])) (fun k hk=>hw k (by simp [hk])) (fun k hk=>hf k (by simp [hk])) (fun i g hi=>hp i g (by
   rw [List.getElem?_append_left (List.getElem?_eq_some_iff.1 hi).1];exact hi))
  obtain ⟨G2,h5,h6⟩:=JV hpv ps r f2 fw2 G1 (EN s p).2 h3.rel h2 (h3.z.trans hS) n2 (fun k hk=>by rw [h3.z];exact hb k (by simp [hk])) (fun k hk=>hw k (by simp [hk])) (fun k hk=>by
    obtain ⟨q1,q2⟩:=hf k (by simp [hk])
    refine ⟨fun b cs hb' e => ?_,fun o I hI hk' => ?_⟩
    ·rcases h3.bx b cs hb' with ⟨q3,q4⟩ | q
     ·exact q1 b cs q3 (q4 ▸ e)
     ·exact n3 _ q k hk e
    ·rcases h3.ow o I hI with ⟨q3,q4⟩ | q
     ·exact q2 o I q3 (q4 ▸ hk')
     ·exact n3 k (q k hk') k hk rfl) (fun i g hi=>by
   have:=hp ((ptr p v).length+i) g (by rw [List.getElem?_append_right (by omega)];simpa using hi)
   rw [h3.pb,Nat.add_assoc];exact this)
  refine ⟨G2, ?_, ?_⟩
  ·rw [hpt,List.length_append]
   unfold Gx
   exact h3.trans h5
  ·unfold Gx RVs
   exact ⟨v,r,rfl,h5.keep _ _ h4,h6⟩
end
def rC (t s:AS):AV→CD→Prop
 | v,.o d=>rD s v d
 | .sl o,.a T d=>match s.owf o with | some I=>(I.ap=some T∧I.deep=true)∧I.d=d | none=>False
 | .nl _,.a _ d=>match d with | .rows _ n cs=>n=0∧cs=[] | _=>False
 | .sl o,.q T d=>match s.owf o with | some I=>(I.ap=some T∧I.deep=false)∧I.d=d | none=>False
 | .nl _,.q _ d=>match d with | .rows _ n cs=>n=0∧cs=[] | _=>False
 | v,.r d=>aD t v d
 | .cl e,.k d=>e=d
 | .x y,.v x=>y=x
 | _,_=>False
def rCs (t s:AS):List AV→List CD→Prop
 | [],[]=>True
 | v :: l,c :: cs=>rC t s v c∧rCs t s l cs
 | _,_=>False
def eC:AV→CD→List Nat
 | .sl o,.o _=>[o]
 | .sl o,.a _ _=>[o]
 | .sl o,.q _ _=>[o]
 | _,_=>[]
def eCs:List AV→List CD→List Nat
 | v :: l,c :: cs=>eC v c++eCs l cs
 | _,_=>[]
def Fr (G:Gh) (s:AS) (e b:List Nat) (k:Nat):Prop:=(∃ o ∈ e,∃ I,s.owf o=some I∧k ∈ G.B o)∨∃ x ∈ b,∃ cs,AO s.bx x=some cs∧G.β x=k
theorem Fr.mono {G:Gh} {s:AS} {e b e' b':List Nat} {k:Nat} (h:Fr G s e b k) (he:∀ o ∈ e,o ∈ e') (hb:∀ x ∈ b,x ∈ b'):Fr G s e' b' k:=by
 rcases h with ⟨o,ho,h⟩ | ⟨x,hx,h⟩
 ·exact .inl ⟨o,he o ho,h⟩
 ·exact .inr ⟨x,hb x hx,h⟩
theorem Fr.ne {w0:Aq} {G:Gh} {s:AS} {a:Act} {w:World} (h:Rel w0 G s a w) {e b e' b':List Nat} {k:Nat} (h1:Fr G s e b k) (h2:Fr G s e' b' k) (he:∀ o ∈ e,o ∉ e') (hb:∀ x ∈ b,x ∉ b'):False:=by
 rcases h1 with ⟨o,ho,I,hI,hk⟩ | ⟨x,hx,cs,hl,hk⟩
 ·rcases h2 with ⟨o',ho',I',hI',hk'⟩ | ⟨x',hx',cs',hl',hk'⟩
  ·exact h.dis o o' I I' hI hI' (fun e1=>he o ho (e1 ▸ ho')) k hk hk'
  ·exact (h.own o I hI).2.2 x' cs' hl' (hk' ▸ hk)
 ·rcases h2 with ⟨o',ho',I',hI',hk'⟩ | ⟨x',hx',cs',hl',hk'⟩
  ·exact (h.own o' I' hI').2.2 x cs hl (hk ▸ hk')
  ·exact hb x hx ((h.inj x x' cs cs' hl hl' (hk.trans hk'.symm)) ▸ hx')
theorem Fr.lt {w0:Aq} {G:Gh} {s:AS} {a:Act} {w:World} (h:Rel w0 G s a w) {e b:List Nat} {k:Nat} (h1:Fr G s e b k):(¬ G.Z k∧(w0.heap.size≤k∨w0.mv k))∧k<w.heap.size:=by
 rcases h1 with ⟨o,ho,I,hI,hk⟩ | ⟨x,hx,cs,hl,rfl⟩
 ·exact (h.own o I hI).2.1.1 k hk
 ·obtain ⟨_,h2,us,T,h3,_⟩:=h.bx x cs hl
  exact ⟨⟨h2.1,h2.2.imp id (w0.wm _)⟩,h3.lt⟩
theorem RZ {w0:Aq} {G:Gh} {s t:AS} {a:Act} {w:World} (h:Rel w0 G s a w) (hq:Flq G s) (ht:Rel w0 G t a w) (hnx:t.nx=s.nx) (hto:∀ o I,t.owf o=some I→s.owf o=some I) {v:AV} {u:Value} {c:CD} (hr:RV G w s.owf s.nx v u) (hc:rC t s v c) :
  ∃ f fw,Fl w (ET G t) c u f fw∧f.Nodup∧(∀ k ∈ f,Fr G s (eC v c) [] k)∧∀ k ∈ fw,k ∈ f∧(w0.heap.size≤k∨w0.wr k):=by
 cases c with
 | o d =>
  have hd:rD s v d:=by cases v <;> exact hc
  obtain ⟨h1,h2⟩:=QY h hr hd
  refine ⟨(AB [v]).flatMap G.B,[],by unfold Fl;exact ⟨h1,rfl⟩, ?_,fun k hk => ?_,by simp⟩
  ·refine GQ h _ ?_ h2
   cases v <;> simp [AB]
  ·obtain ⟨o,ho,hk⟩:=List.mem_flatMap.1 hk
   obtain ⟨I,hI,_⟩:=h2 o ho
   refine .inl ⟨o, ?_,I,hI,hk⟩
   cases v <;> simp [AB] at ho
   simp [eC,ho]
 | a T d =>
  cases v <;> simp only [rC] at hc <;> first | exact hc.elim | skip
  case nl z =>
   cases d <;> simp only at hc <;> first | exact hc.elim | skip
   obtain ⟨rfl,rfl⟩:=hc
   unfold RV at hr;obtain ⟨a0,rfl⟩:=hr
   have e0:Cm (.slice a0 0 0)=[]:=by cases a0 <;> rfl
   exact ⟨[],[],by unfold Fl;exact ⟨_,0,[],[],[],rfl,Fg _ _ _ _,by unfold Ao;exact ⟨rfl,rfl⟩,by rw [e0];rfl,by simp,e0.symm⟩,by simp,by simp,by simp⟩
  case sl o =>
   cases hI:s.owf o with
   | none=>rw [hI] at hc;exact hc.elim
   | some I =>
    rw [hI] at hc
    obtain ⟨⟨h1,h2⟩,rfl⟩:=hc
    obtain ⟨_,⟨_,_,_,hap⟩,_⟩:=h.own o I hI
    obtain ⟨sz,n,cs,vs,e,h3,h4,h5,h6,h7⟩:=hap T h1
    obtain ⟨fp,h8,h9,h10⟩:=h7 h2
    unfold RV at hr
    have hv:=hr.2.2 I hI
    subst hv
    refine ⟨Cm (G.root o)++fp,Cm (G.root o),by unfold Fl;exact ⟨sz,n,cs,vs,fp,e,h3,h8,rfl,h6,rfl⟩, ?_,fun k hk => .inl ⟨o,by simp [eC],I,hI, ?_⟩,fun k hk=>⟨by simp [hk],(h5 k hk).2⟩⟩
    ·obtain ⟨a2,c2,ev,_⟩:=BW h3
     refine List.nodup_append.2 ⟨by rw [ev];unfold Cm;split <;> simp,h9,fun k hk k' hk' e=>(h10 k' hk').2 (e ▸ hk)⟩
    ·rcases List.mem_append.1 hk with hk | hk
     ·exact (h5 k hk).1
     ·exact (h10 k hk).1
 | q T d =>
  cases v <;> simp only [rC] at hc <;> first | exact hc.elim | skip
  case nl z =>
   cases d <;> simp only at hc <;> first | exact hc.elim | skip
   obtain ⟨rfl,rfl⟩:=hc
   unfold RV at hr;obtain ⟨a0,rfl⟩:=hr
   have e0:Cm (.slice a0 0 0)=[]:=by cases a0 <;> rfl
   exact ⟨[],[],by unfold Fl;exact ⟨_,0,[],[],rfl,Fg _ _ _ _,by unfold An;rfl,e0.symm,by simp,e0.symm⟩,by simp,by simp,by simp⟩
  case sl o =>
   cases hI:s.owf o with
   | none=>rw [hI] at hc;exact hc.elim
   | some I =>
    rw [hI] at hc
    obtain ⟨⟨h1,h2⟩,rfl⟩:=hc
    obtain ⟨_,⟨_,_,_,hap⟩,_⟩:=h.own o I hI
    obtain ⟨sz,n,cs,vs,e,h3,h4,h5,h6,h7⟩:=hap T h1
    have hfl:=hq o I T hI h2 h1
    unfold RV at hr
    have hv:=hr.2.2 I hI
    subst hv
    refine ⟨Cm (G.root o),Cm (G.root o),by unfold Fl;exact ⟨sz,n,cs,vs,e,h3,An.mono (fun k hk=>hk.elim (fun hk => .inl hk) fun hk=>absurd (hfl k hk.1) hk.2) (fun _ _=>rfl) _ _ h4,rfl,h6,rfl⟩, ?_,fun k hk => .inl ⟨o,by simp [eC],I,hI,(h5 k hk).1⟩,fun k hk=>⟨hk,(h5 k hk).2⟩⟩
    obtain ⟨a2,c2,ev,_⟩:=BW h3
    rw [ev];unfold Cm;split <;> simp
 | k d =>
  cases v <;> simp only [rC] at hc <;> first | exact hc.elim | skip
  subst hc
  unfold RV at hr
  exact ⟨[],[],by unfold Fl;exact ⟨⟨hr.1,AW.mono (fun k hk => .inl hk) (fun _ _=>rfl) _ _ hr.2⟩,rfl,rfl⟩,by simp,by simp,by simp⟩
 | v x =>
  cases v <;> simp only [rC] at hc <;> first | exact hc.elim | skip
  subst hc
  unfold RV at hr
  exact ⟨[],[],by unfold Fl;exact ⟨hr,rfl,rfl⟩,by simp,by simp,by simp⟩
 | r d =>
  have hd:aD t v d:=by cases v <;> exact hc
  refine ⟨[],[],by unfold Fl;exact ⟨Ya ht (RV.turn (by rw [hnx];exact Nat.le_refl _) (fun _ hk=>⟨hk,rfl⟩) (fun _ _=>rfl) (fun o I _ ho=>⟨hto o I ho,rfl,rfl,fun _ _=>rfl⟩) v u hr) hd,rfl,rfl⟩,by simp,by simp,by simp⟩
theorem HU {w0:Aq} {G:Gh} {s t:AS} {a:Act} {w:World} (h:Rel w0 G s a w) (hq:Flq G s) (ht:Rel w0 G t a w) (hnx:t.nx=s.nx) (hto:∀ o I,t.owf o=some I→s.owf o=some I):∀ {l:List AV} {us:List Value} {cs:List CD},RVs G w s.owf s.nx l us→rCs t s l cs→(eCs l cs).Nodup →
  ∃ f fw,BG w (ET G t) cs us f fw∧f.Nodup∧(∀ k ∈ f,Fr G s (eCs l cs) [] k)∧∀ k ∈ fw,k ∈ f∧(w0.heap.size≤k∨w0.wr k)
 | [],us,[],hr,hc,_=>by unfold RVs at hr;subst hr;exact ⟨[],[],by unfold BG;exact ⟨rfl,rfl,rfl⟩,by simp,by simp,by simp⟩
 | [],us,_ :: _,hr,hc,_=>hc.elim
 | _ :: _,us,[],hr,hc,_=>hc.elim
 | v :: l,us,c :: cs,hr,hc,hn=>by
  unfold RVs at hr
  obtain ⟨u,r,rfl,h1,h2⟩:=hr
  unfold eCs at hn ⊢
  obtain ⟨n1,n2,n3⟩:=List.nodup_append.1 hn
  obtain ⟨f1,w1,a1,a2,a3,a4⟩:=RZ h hq ht hnx hto h1 hc.1
  obtain ⟨f2,w2,b1,b2,b3,b4⟩:=HU h hq ht hnx hto h2 hc.2 n2
  refine ⟨f1++f2,w1++w2,by unfold BG;exact ⟨u,r,f1,f2,w1,w2,rfl,rfl,rfl,a1,b1⟩,List.nodup_append.2 ⟨a2,b2,fun k hk k' hk' e => ?_⟩,fun k hk => ?_,fun k hk => ?_⟩
  ·subst e
   exact Fr.ne h (a3 k hk) (b3 k hk') (fun o ho ho'=>n3 o ho o ho' rfl) (by simp)
  ·rcases List.mem_append.1 hk with hk | hk
   ·exact (a3 k hk).mono (fun o ho=>List.mem_append.2 (.inl ho)) (fun _ h=>h)
   ·exact (b3 k hk).mono (fun o ho=>List.mem_append.2 (.inr ho)) (fun _ h=>h)
  ·rcases List.mem_append.1 hk with hk | hk
   ·exact ⟨List.mem_append.2 (.inl (a4 k hk).1),(a4 k hk).2⟩
   ·exact ⟨List.mem_append.2 (.inr (b4 k hk).1),(b4 k hk).2⟩
mutual
def mP (t s:AS):AV→PA→Prop
 | a,.b p=>aA t a p
 | a,.m c=>rC t s a c
 | .ag l,.g cs=>rCs t s l cs
 | .bx b off,.p cs=>off=0∧match AO s.bx b with | some l=>rCs t s l cs | none=>False
 | .fn F l,.f F' caps=>F=F'∧mPs t s l caps
 | _,.g _=>False
 | _,.p _=>False
 | _,.f _ _=>False
def mPs (t s:AS):List AV→List PA→Prop
 | a :: l,p :: ps=>mP t s a p∧mPs t s l ps
 | [],[]=>True
 | [],_ :: _=>False
 | _ :: _,[]=>False
end
mutual
def eP (s:AS):AV→PA→List Nat
 | a,.m c=>eC a c
 | .ag l,.g cs=>eCs l cs
 | .bx b _,.p cs=>match AO s.bx b with | some l=>eCs l cs | none=>[]
 | .fn _ l,.f _ caps=>ePs s l caps
 | _,.b _=>[]
 | _,.g _=>[]
 | _,.p _=>[]
 | _,.f _ _=>[]
def ePs (s:AS):List AV→List PA→List Nat
 | a :: l,p :: ps=>eP s a p++ePs s l ps
 | [],_=>[]
 | _ :: _,[]=>[]
end
mutual
def bP:AV→PA→List Nat
 | .bx b _,.p _=>[b]
 | .fn _ l,.f _ caps=>bPs l caps
 | _,.b _=>[]
 | _,.m _=>[]
 | _,.g _=>[]
 | _,.p _=>[]
 | _,.f _ _=>[]
def bPs:List AV→List PA→List Nat
 | a :: l,p :: ps=>bP a p++bPs l ps
 | [],_=>[]
 | _ :: _,[]=>[]
end
mutual
theorem aBW {w0:Aq} {G:Gh} {s t:AS} {a:Act} {w:World} (h:Rel w0 G s a w) (hq:Flq G s) (ht:Rel w0 G t a w) (hnx:t.nx=s.nx) (hto:∀ o I,t.owf o=some I→s.owf o=some I):∀ (p:PA) {v:AV} {u:Value},RV G w s.owf s.nx v u→mP t s v p→(eP s v p).Nodup→(bP v p).Nodup →
  ∃ f fw,DK w (ET G t) p u f fw∧f.Nodup∧(∀ k ∈ f,Fr G s (eP s v p) (bP v p) k)∧(∀ k ∈ fw,k ∈ f∧(w0.heap.size≤k∨w0.wr k))∧ptr p u=(bP v p).map G.β∧∀ x ∈ bP v p,∃ cs,AO s.bx x=some cs
 | .b p,v,u,hr,hm,_,_=>by
  have hm':aA t v p:=by cases v <;> exact hm
  refine ⟨[],[],by unfold DK;exact ⟨QB.okX ht (aDV hm') (RV.turn (by rw [hnx];exact Nat.le_refl _) (fun _ hk=>⟨hk,rfl⟩) (fun _ _=>rfl) (fun o I _ ho=>⟨hto o I ho,rfl,rfl,fun _ _=>rfl⟩) v u hr),rfl,rfl⟩,by simp,by simp,by simp,by cases v <;> (unfold ptr bP;rfl),by cases v <;> (unfold bP;simp)⟩
 | .m c,v,u,hr,hm,_,_=>by
  have hm':rC t s v c:=by cases v <;> exact hm
  obtain ⟨f,fw,h1,h2,h3,h4⟩:=RZ h hq ht hnx hto hr hm'
  have e1:eP s v (.m c)=eC v c:=by cases v <;> (unfold eP;rfl)
  have e2:bP v (.m c)=[]:=by cases v <;> (unfold bP;rfl)
  rw [e1,e2]
  exact ⟨f,fw,by unfold DK;exact h1,h2,h3,h4,by unfold ptr;rfl,by simp⟩
 | .g cs,v,u,hr,hm,hn,hnb=>by
  cases v <;> first | exact hm.elim | skip
  rename_i l
  unfold RV at hr
  obtain ⟨us,rfl,hr⟩:=hr
  unfold mP at hm
  unfold eP at hn ⊢
  unfold bP
  obtain ⟨f,fw,h1,h2,h3,h4⟩:=HU h hq ht hnx hto hr hm hn
  exact ⟨f,fw,by unfold DK;exact ⟨us,rfl,h1⟩,h2,h3,h4,by unfold ptr;rfl,by simp⟩
 | .p cs,v,u,hr,hm,hn,hnb=>by
  cases v <;> first | exact hm.elim | skip
  rename_i b off
  unfold mP at hm
  obtain ⟨hoff,hm⟩:=hm
  subst hoff
  unfold eP at hn ⊢
  unfold bP
  cases hl:AO s.bx b with
  | none=>rw [hl] at hm;exact hm.elim
  | some l =>
   rw [hl] at hm hn
   simp only at hm hn ⊢
   obtain ⟨_,hb2,us,T,hB,hrs⟩:=h.bx _ l hl
   unfold RV at hr
   obtain ⟨_,rfl⟩:=hr
   obtain ⟨f,fw,h1,h2,h3,h4⟩:=HU h hq ht hnx hto hrs hm hn
   have hnb:G.β b ∉ f:=fun hk=>Fr.ne h (h3 _ hk) (.inr ⟨b,List.mem_cons_self,l,hl,rfl⟩:Fr G s [] [b] _) (by simp) (by simp)
   refine ⟨G.β b :: f,G.β b :: fw,by unfold DK;exact ⟨_,T,us,f,fw,rfl,hB,h1,rfl,rfl⟩,List.nodup_cons.2 ⟨hnb,h2⟩,fun k hk => ?_,fun k hk => ?_,by unfold ptr Wc;rfl,fun x hx => ?_⟩
   ·rcases List.mem_cons.1 hk with rfl | hk
    ·exact .inr ⟨b,by simp,l,hl,rfl⟩
    ·exact (h3 k hk).mono (fun _ h=>h) (by simp)
   ·rcases List.mem_cons.1 hk with rfl | hk
    ·exact ⟨by simp,hb2.2⟩
    ·exact ⟨by simp [(h4 k hk).1],(h4 k hk).2⟩
   ·rw [List.mem_singleton.1 hx];exact ⟨l,hl⟩
 | .f F caps,v,u,hr,hm,hn,hnb=>by
  cases v <;> first | exact hm.elim | skip
  rename_i F' l
  unfold mP at hm
  obtain ⟨rfl,hm⟩:=hm
  unfold RV at hr
  obtain ⟨us,rfl,hr⟩:=hr
  unfold eP at hn ⊢
  unfold bP at hnb ⊢
  obtain ⟨f,fw,h1,h2,h3,h4,h5,h6⟩:=Kd h hq ht hnx hto caps hr hm hn hnb
  exact ⟨f,fw,by unfold DK;exact ⟨us,rfl,h1⟩,h2,h3,h4,by unfold ptr RF;simpa using h5,h6⟩
theorem Kd {w0:Aq} {G:Gh} {s t:AS} {a:Act} {w:World} (h:Rel w0 G s a w) (hq:Flq G s) (ht:Rel w0 G t a w) (hnx:t.nx=s.nx) (hto:∀ o I,t.owf o=some I→s.owf o=some I):∀ (ps:List PA) {l:List AV} {us:List Value},RVs G w s.owf s.nx l us→mPs t s l ps→(ePs s l ps).Nodup→(bPs l ps).Nodup →
  ∃ f fw,Cu w (ET G t) ps us f fw∧f.Nodup∧(∀ k ∈ f,Fr G s (ePs s l ps) (bPs l ps) k)∧(∀ k ∈ fw,k ∈ f∧(w0.heap.size≤k∨w0.wr k))∧FL ps us=(bPs l ps).map G.β∧∀ x ∈ bPs l ps,∃ cs,AO s.bx x=some cs
 | [],l,us,hr,hm,_,_=>by
  cases l with
  | nil =>
   unfold RVs at hr;subst hr
   exact ⟨[],[],by unfold Cu;exact ⟨rfl,rfl,rfl⟩,by simp,by simp,by simp,by unfold FL bPs;rfl,by unfold bPs;simp⟩
  | cons v l=>unfold mPs at hm;exact hm.elim
 | p :: ps,l,us,hr,hm,hn,hnb=>by
  cases l with
  | nil=>unfold mPs at hm;exact hm.elim
  | cons v l =>
   unfold RVs at hr
   obtain ⟨u,r,rfl,h1,h2⟩:=hr
   unfold mPs at hm
   unfold ePs at hn ⊢
   unfold bPs at hnb ⊢
   obtain ⟨n1,n2,n3⟩:=List.nodup_append.1 hn
   obtain ⟨m1,m2,m3⟩:=List.nodup_append.1 hnb
   obtain ⟨f1,w1,a1,a2,a3,a4,a5,a6⟩:=aBW h hq ht hnx hto p h1 hm.1 n1 m1
   obtain ⟨f2,w2,b1,b2,b3,b4,b5,b6⟩:=Kd h hq ht hnx hto ps h2 hm.2 n2 m2
   refine ⟨f1++f2,w1++w2,by unfold Cu;exact ⟨u,r,f1,f2,w1,w2,rfl,rfl,rfl,a1,b1⟩,List.nodup_append.2 ⟨a2,b2,fun k hk k' hk' e => ?_⟩,fun k hk => ?_,fun k hk => ?_, ?_,fun x hx => ?_⟩
   ·subst e
    exact Fr.ne h (a3 k hk) (b3 k hk') (fun o ho ho'=>n3 o ho o ho' rfl) (fun o ho ho'=>m3 o ho o ho' rfl)
   ·rcases List.mem_append.1 hk with hk | hk
    ·exact (a3 k hk).mono (fun o ho=>List.mem_append.2 (.inl ho)) (fun o ho=>List.mem_append.2 (.inl ho))
    ·exact (b3 k hk).mono (fun o ho=>List.mem_append.2 (.inr ho)) (fun o ho=>List.mem_append.2 (.inr ho))
   ·rcases List.mem_append.1 hk with hk | hk
    ·exact ⟨List.mem_append.2 (.inl (a4 k hk).1),(a4 k hk).2⟩
    ·exact ⟨List.mem_append.2 (.inr (b4 k hk).1),(b4 k hk).2⟩
   ·rw [FL,List.map_append,← a5,← b5];rfl
   ·rcases List.mem_append.1 hx with hx | hx
    ·exact a6 x hx
    ·exact b6 x hx
end
theorem BG.append {w:World} {S:Nat→Prop}:∀ {cs ds:List CD} {vs us:List Value} {f g fw gw:List Nat},BG w S cs vs f fw→BG w S ds us g gw→BG w S (cs++ds) (vs++us) (f++g) (fw++gw)
 | [],ds,vs,us,f,g,fw,gw,h,h'=>by
  unfold BG at h
  obtain ⟨rfl,rfl,rfl⟩:=h
  exact h'
 | c :: cs,ds,vs,us,f,g,fw,gw,h,h'=>by
  unfold BG at h
  obtain ⟨v,r,f1,f2,w1,w2,rfl,rfl,rfl,h1,h2⟩:=h
  rw [List.cons_append,List.cons_append];unfold BG
  exact ⟨v,_,f1,_,w1,_,rfl,by rw [List.append_assoc],by rw [List.append_assoc],h1,BG.append h2 h'⟩
def AS.em (s:AS):AS:={ s with tm:=[],bx:=[],ow:=[],pb:=[] }
theorem Rel.em {w0:Aq} {G:Gh} {s:AS} {a:Act} {w:World} (h:Rel w0 G s a w):Rel w0 G s.em a w :=
 ⟨h.nt,h.df,fun _ _ h=>(by cases h),fun _ _ h=>(by cases h),fun _ _ _ _ h=>(by cases h),fun _ _ h=>(by cases h),fun _ _ _ _ h=>(by cases h),h.bel,h.zl,fun i b hb=>(by simp [AS.em] at hb),h.zz⟩
theorem Em {G:Gh} {s:AS} {k:Nat} (h:ET G s.em k):G.Z k:=by
 rcases h with h | ⟨_,_,h,_⟩ | ⟨_,_,h,_⟩
 ·exact h
 ·cases h
 ·cases h
def rRs (s:AS):List (Option AV)→List RD→Prop
 | [],[]=>True
 | some v :: r,.one c :: ps=>rC s.em s v c∧rRs s r ps
 | some (.ag l) :: r,.ag cs :: ps=>rCs s.em s l cs∧rRs s r ps
 | _,_=>False
def eRs:List (Option AV)→List RD→List Nat
 | some v :: r,.one c :: ps=>eC v c++eRs r ps
 | some (.ag l) :: r,.ag cs :: ps=>eCs l cs++eRs r ps
 | _,_=>[]
def rOs (s:AS):List Nat→List (List CD)→Prop
 | [],[]=>True
 | b :: bs,cs :: outs=>(match AO s.bx b with | some l=>rCs s.em s l cs | none=>False)∧rOs s bs outs
 | _,_=>False
def eOs (s:AS):List Nat→List (List CD)→List Nat
 | b :: bs,cs :: outs=>(match AO s.bx b with | some l=>eCs l cs | none=>[])++eOs s bs outs
 | _,_=>[]
def CC (P:Program) (fn:Func) (s:AS) (outs:List (List CD)) (rs:List RD):Prop :=
 rRs s (fn.results.toList.map (LO P s)) rs∧rOs s s.pb outs∧s.pb.Nodup∧(eRs (fn.results.toList.map (LO P s)) rs++eOs s s.pb outs).Nodup
theorem HM {s:AS}:∀ {l:List (Option AV)} {rs:List RD},rRs s l rs→∃ avs:List AV,l=avs.map some
 | [],_,_=>⟨[],rfl⟩
 | none :: l,[],h=>h.elim
 | none :: l,.one _ :: _,h=>h.elim
 | none :: l,.ag _ :: _,h=>h.elim
 | some v :: l,[],h=>by cases v <;> exact h.elim
 | some v :: l,.one c :: rs,h=>by
  obtain ⟨avs,e⟩:=HM (rs:=rs) (l:=l) (by cases v <;> exact h.2)
  exact ⟨v :: avs,by rw [e];rfl⟩
 | some v :: l,.ag cs :: rs,h=>by
  cases v <;> first | exact h.elim | skip
  rename_i q
  obtain ⟨avs,e⟩:=HM (rs:=rs) (l:=l) h.2
  exact ⟨.ag q :: avs,by rw [e];rfl⟩
theorem Xg {w:World} {G:Gh} {s:AS}:∀ {c:CD} {v:Value} {f fw:List Nat},Fl w (ET G s.em) c v f fw→Fl w G.Z c v f fw
 | .o d,v,f,fw,h=>by unfold Fl at h ⊢; exact h
 | .a T d,v,f,fw,h=>by unfold Fl at h ⊢; exact h
 | .q T d,v,f,fw,h=>by
  unfold Fl at h ⊢
  obtain ⟨sz,n,cs,vs,h1,h2,h3,h4⟩:=h
  exact ⟨sz,n,cs,vs,h1,h2,An.mono (fun k hk=>Em hk) (fun _ _=>rfl) _ _ h3,h4⟩
 | .r d,v,f,fw,h=>by unfold Fl at h ⊢; exact ⟨AW.mono (fun k hk=>Em hk) (fun _ _=>rfl) _ _ h.1,h.2⟩
 | .k d,v,f,fw,h=>by unfold Fl at h ⊢; exact ⟨⟨h.1.1,AW.mono (fun k hk=>Em hk) (fun _ _=>rfl) _ _ h.1.2⟩,h.2⟩
 | .v x,v,f,fw,h=>by unfold Fl at h ⊢; exact h
theorem MU {w:World} {G:Gh} {s:AS}:∀ {cs:List CD} {vs:List Value} {f fw:List Nat},BG w (ET G s.em) cs vs f fw→BG w G.Z cs vs f fw
 | [],v,f,fw,h=>by unfold BG at h ⊢; exact h
 | c :: cs,v,f,fw,h=>by
  unfold BG at h ⊢
  obtain ⟨v,r,f1,f2,w1,w2,h1,h2,h3,h4,h5⟩:=h
  exact ⟨v,r,f1,f2,w1,w2,h1,h2,h3,Xg h4,MU h5⟩
theorem LE {s:AS}:∀ o I,s.em.owf o=some I→s.owf o=some I:=fun o I h=>by cases h
theorem JU {w0:Aq} {G:Gh} {s:AS} {a:Act} {w:World} (h:Rel w0 G s a w) (hq:Flq G s):∀ {avs:List AV} {us:List Value} {rs:List RD},RVs G w s.owf s.nx avs us→rRs s (avs.map some) rs→(eRs (avs.map some) rs).Nodup →
  ∃ vs f fw,us=Fq rs vs∧BG w G.Z (Br rs) vs f fw∧f.Nodup∧(∀ k ∈ f,Fr G s (eRs (avs.map some) rs) [] k)∧∀ k ∈ fw,k ∈ f∧(w0.heap.size≤k∨w0.wr k)
 | [],us,[],hr,hc,_=>by unfold RVs at hr;subst hr;exact ⟨[],[],[],rfl,by unfold Br BG;exact ⟨rfl,rfl,rfl⟩,by simp,by simp,by simp⟩
 | [],us,_ :: _,hr,hc,_=>hc.elim
 | v :: l,us,[],hr,hc,_=>by cases v <;> exact hc.elim
 | v :: l,us,.one c :: rs,hr,hc,hn=>by
  unfold RVs at hr
  obtain ⟨u,r,rfl,h1,h2⟩:=hr
  have hc':rC s.em s v c∧rRs s (l.map some) rs:=by cases v <;> exact hc
  have he:eRs ((v :: l).map some) (.one c :: rs)=eC v c++eRs (l.map some) rs:=by cases v <;> rfl
  rw [he] at hn ⊢
  obtain ⟨n1,n2,n3⟩:=List.nodup_append.1 hn
  obtain ⟨f1,w1,a1,a2,a3,a4⟩:=RZ h hq h.em rfl LE h1 hc'.1
  obtain ⟨vs,f2,w2,b0,b1,b2,b3,b4⟩:=JU h hq h2 hc'.2 n2
  refine ⟨u :: vs,f1++f2,w1++w2,by rw [Fq,b0];rfl,by unfold Br BG;exact ⟨u,vs,f1,f2,w1,w2,rfl,rfl,rfl,Xg a1,b1⟩,List.nodup_append.2 ⟨a2,b2,fun k hk k' hk' e => ?_⟩,fun k hk => ?_,fun k hk => ?_⟩
  ·subst e
   exact Fr.ne h (a3 k hk) (b3 k hk') (fun o ho ho'=>n3 o ho o ho' rfl) (by simp)
  ·rcases List.mem_append.1 hk with hk | hk
   ·exact (a3 k hk).mono (fun o ho=>List.mem_append.2 (.inl ho)) (fun _ h=>h)
   ·exact (b3 k hk).mono (fun o ho=>List.mem_append.2 (.inr ho)) (fun _ h=>h)
  ·rcases List.mem_append.1 hk with hk | hk
   ·exact ⟨List.mem_append.2 (.inl (a4 k hk).1),(a4 k hk).2⟩
   ·exact ⟨List.mem_append.2 (.inr (b4 k hk).1),(b4 k hk).2⟩
 | v :: l,us,.ag cs :: rs,hr,hc,hn=>by
  cases v <;> first | exact hc.elim | skip
  unfold RVs RV at hr
  obtain ⟨u,r,rfl,⟨xs,rfl,h1⟩,h2⟩:=hr
  obtain ⟨hc1,hc2⟩:=hc
  obtain ⟨n1,n2,n3⟩:=List.nodup_append.1 hn
  obtain ⟨f1,w1,a1,a2,a3,a4⟩:=HU h hq h.em rfl LE h1 hc1 n1
  obtain ⟨vs,f2,w2,b0,b1,b2,b3,b4⟩:=JU h hq h2 hc2 n2
  have hl:=a1.len
  refine ⟨xs++vs,f1++f2,w1++w2,by rw [Fq,← hl,List.take_left' rfl,List.drop_left' rfl,b0],by unfold Br;exact (MU a1).append b1,List.nodup_append.2 ⟨a2,b2,fun k hk k' hk' e => ?_⟩,fun k hk => ?_,fun k hk => ?_⟩
  ·subst e
   exact Fr.ne h (a3 k hk) (b3 k hk') (fun o ho ho'=>n3 o ho o ho' rfl) (by simp)
  ·rcases List.mem_append.1 hk with hk | hk
   ·exact (a3 k hk).mono (fun o ho=>List.mem_append.2 (.inl ho)) (fun _ h=>h)
   ·exact (b3 k hk).mono (fun o ho=>List.mem_append.2 (.inr ho)) (fun _ h=>h)
  ·rcases List.mem_append.1 hk with hk | hk
   ·exact ⟨List.mem_append.2 (.inl (a4 k hk).1),(a4 k hk).2⟩
   ·exact ⟨List.mem_append.2 (.inr (b4 k hk).1),(b4 k hk).2⟩
theorem MZ {w0:Aq} {G:Gh} {s:AS} {a:Act} {w:World} (h:Rel w0 G s a w) (hq:Flq G s):∀ {bs:List Nat} {outs:List (List CD)},rOs s bs outs→bs.Nodup→(eOs s bs outs).Nodup →
  ∃ f fw,FM w G.Z (bs.map G.β) outs f fw∧f.Nodup∧(∀ k ∈ f,Fr G s (eOs s bs outs) bs k)∧∀ k ∈ fw,k ∈ f∧(w0.heap.size≤k∨w0.wr k)
 | [],[],hc,_,_=>⟨[],[],by rw [List.map_nil];unfold FM;exact ⟨rfl,rfl⟩,by simp,by simp,by simp⟩
 | [],_ :: _,hc,_,_=>hc.elim
 | _ :: _,[],hc,_,_=>hc.elim
 | b :: bs,cs :: outs,hc,hnb,hn=>by
  obtain ⟨hc1,hc2⟩:=hc
  unfold eOs at hn ⊢
  cases hl:AO s.bx b with
  | none=>rw [hl] at hc1;exact hc1.elim
  | some l =>
   rw [hl] at hc1 hn
   simp only at hc1 hn ⊢
   obtain ⟨n1,n2,n3⟩:=List.nodup_append.1 hn
   obtain ⟨m1,m2⟩:=List.nodup_cons.1 hnb
   obtain ⟨_,hb2,us,T,hB,hrs⟩:=h.bx b l hl
   obtain ⟨f1,w1,a1,a2,a3,a4⟩:=HU h hq h.em rfl LE hrs hc1 n1
   obtain ⟨f2,w2,b1,b2,b3,b4⟩:=MZ h hq hc2 m2 n2
   have hb1:Fr G s [] [b] (G.β b):=.inr ⟨b,by simp,l,hl,rfl⟩
   refine ⟨G.β b :: (f1++f2),w1++w2,by rw [List.map_cons];unfold FM;exact ⟨T,us,f1,f2,w1,w2,hB,MU a1,rfl,rfl,b1⟩,List.nodup_cons.2 ⟨fun hk => ?_,List.nodup_append.2 ⟨a2,b2,fun k hk k' hk' e => ?_⟩⟩,fun k hk => ?_,fun k hk => ?_⟩
   ·rcases List.mem_append.1 hk with hk | hk
    ·exact Fr.ne h (a3 _ hk) hb1 (by simp) (by simp)
    ·exact Fr.ne h hb1 (b3 _ hk) (by simp) (by simpa using m1)
   ·subst e
    exact Fr.ne h (a3 k hk) (b3 k hk') (fun o ho ho'=>n3 o ho o ho' rfl) (by simp)
   ·rcases List.mem_cons.1 hk with rfl | hk
    ·exact hb1.mono (by simp) (by simp)
    ·rcases List.mem_append.1 hk with hk | hk
     ·exact (a3 k hk).mono (fun o ho=>List.mem_append.2 (.inl ho)) (by simp)
     ·exact (b3 k hk).mono (fun o ho=>List.mem_append.2 (.inr ho)) (fun x hx=>by simp [hx])
   ·rcases List.mem_append.1 hk with hk | hk
    ·exact ⟨by simp [(a4 k hk).1],(a4 k hk).2⟩
    ·exact ⟨by simp [(b4 k hk).1],(b4 k hk).2⟩
mutual
def nP:PA→Nat
 | .p _=>1
 | .f _ caps=>nPs caps
 | .b _=>0
 | .m _=>0
 | .g _=>0
def nPs:List PA→Nat
 | []=>0
 | p :: ps=>nP p+nPs ps
end
mutual
theorem Yt {w:World} {S:Nat→Prop}:∀ (p:PA) {v:Value} {f fw:List Nat},DK w S p v f fw→(ptr p v).length=nP p
 | .b p,v,f,fw,h=>by unfold ptr nP;rfl
 | .m c,v,f,fw,h=>by unfold ptr nP;rfl
 | .g cs,v,f,fw,h=>by unfold ptr nP;rfl
 | .p cs,v,f,fw,h=>by
  unfold DK at h
  obtain ⟨g,T,us,f',fw',rfl,_⟩:=h
  unfold ptr nP;rfl
 | .f F caps,v,f,fw,h=>by
  unfold DK at h
  obtain ⟨us,rfl,h⟩:=h
  unfold ptr RF nP
  simpa using HI caps h
theorem HI {w:World} {S:Nat→Prop}:∀ (ps:List PA) {us:List Value} {f fw:List Nat},Cu w S ps us f fw→(FL ps us).length=nPs ps
 | [],us,f,fw,h=>by unfold FL nPs;rfl
 | p :: ps,us,f,fw,h=>by
  unfold Cu at h
  obtain ⟨v,r,f1,f2,w1,w2,rfl,rfl,rfl,h1,h2⟩:=h
  rw [FL,nPs,List.length_append]
  have:=Yt p h1
  have:=HI ps h2
  simp only [List.headD_cons,List.tail_cons]
  omega
end
theorem Pa {w:World} {S:Nat→Prop} {c:CD} {v:Value} {f fw:List Nat} (h:Fl w S c v f fw):∀ k ∈ fw,k ∈ f:=fun k hk=>by
 cases c <;> unfold Fl at h
 ·rw [h.2] at hk;cases hk
 ·obtain ⟨_,_,_,_,_,_,_,_,e,_,e2⟩:=h;rw [e];rw [e2] at hk;simp [hk]
 ·obtain ⟨_,_,_,_,_,_,_,e,_,e2⟩:=h;rw [e];rw [e2] at hk;exact hk
 ·rw [h.2.2] at hk;cases hk
 ·rw [h.2.2] at hk;cases hk
 ·rw [h.2.2] at hk;cases hk
theorem My {w:World} {S:Nat→Prop}:∀ (cs:List CD) {us:List Value} {f fw:List Nat},BG w S cs us f fw→∀ k ∈ fw,k ∈ f
 | [],us,f,fw,h,k,hk=>by unfold BG at h;rw [h.2.2] at hk;cases hk
 | c :: cs,us,f,fw,h,k,hk=>by
  unfold BG at h
  obtain ⟨v,r,f1,f2,w1,w2,rfl,rfl,rfl,h1,h2⟩:=h
  rcases List.mem_append.1 hk with hk | hk
  ·exact List.mem_append.2 (.inl (Pa h1 k hk))
  ·exact List.mem_append.2 (.inr (My cs h2 k hk))
mutual
theorem aBp {w:World} {S:Nat→Prop}:∀ (p:PA) {v:Value} {f fw:List Nat},DK w S p v f fw→∀ k ∈ fw,k ∈ f
 | .b p,v,f,fw,h,k,hk=>by unfold DK at h;rw [h.2.2] at hk;cases hk
 | .m c,v,f,fw,h,k,hk=>by
  unfold DK at h
  exact Pa h k hk
 | .g cs,v,f,fw,h,k,hk=>by
  unfold DK at h
  obtain ⟨vs,_,h⟩:=h
  exact My cs h k hk
 | .p cs,v,f,fw,h,k,hk=>by
  unfold DK at h
  obtain ⟨g,T,us,f',fw',_,_,h,rfl,rfl⟩:=h
  rcases List.mem_cons.1 hk with rfl | hk
  ·simp
  ·simp [My cs h k hk]
 | .f F caps,v,f,fw,h,k,hk=>by
  unfold DK at h
  obtain ⟨us,_,h⟩:=h
  exact Kk caps h k hk
theorem Kk {w:World} {S:Nat→Prop}:∀ (ps:List PA) {us:List Value} {f fw:List Nat},Cu w S ps us f fw→∀ k ∈ fw,k ∈ f
 | [],us,f,fw,h,k,hk=>by unfold Cu at h;rw [h.2.2] at hk;cases hk
 | p :: ps,us,f,fw,h,k,hk=>by
  unfold Cu at h
  obtain ⟨v,r,f1,f2,w1,w2,rfl,rfl,rfl,h1,h2⟩:=h
  rcases List.mem_append.1 hk with hk | hk
  ·exact List.mem_append.2 (.inl (aBp p h1 k hk))
  ·exact List.mem_append.2 (.inr (Kk ps h2 k hk))
end
def s0P (nt:Nat) (args:List PA):AS:={ (Gx ⟨nt,[],[],[],0,[]⟩ args).2 with tm:=aBG 0 (Gx ⟨nt,[],[],[],0,[]⟩ args).1 }
theorem Ub {P : Program} {f : FuncId} {fn : Func} {c : Code} {args : List PA} {outs : List (List CD)} {rs : List RD} (hf : P.funcs[f]? = some fn) (hb : fn.body = some c) (hn : (fn.name == "runtime.NumGoroutine") = false) (hnt : args.length ≤ fn.ntmps) (hno : nPs args = outs.length)
  (h:XW P c (s0P fn.ntmps args) fun e s=>(e = .ret∨e = .normal)∧CC P fn s outs rs):Bc P f args outs rs:=by
 refine ⟨⟨fn,hf,by simp [hb],hn⟩,fun w us fp fw S hg hgs hS hu hnd=>calls_of_wp hf hb ?_⟩
 have hlen:=hu.len
 have hpl:=HI args hu
 have hrel0:Rel ⟨w,fun k=>k ∈ fp,fun k=>k ∈ fp,fun i=>(FL args us).getD i 0,fun _=>none,S,fun _ h=>h,fun _ h=>h,Nq hg (fun k hk=>(hS k (hgs k hk)).2),hgs⟩ ⟨fun _=>[],fun _=>undef,fun _=>0,S⟩ ⟨fn.ntmps,[],[],[],0,[]⟩ { tmps:=us.toArray++Array.replicate (fn.ntmps-us.toArray.size) undef,defers:=[] } w :=
  ⟨by simp;omega,rfl,fun t v ht=>(by cases ht),fun b cs hb=>(by cases hb),fun _ _ _ _ hb=>(by cases hb),fun o I ho=>(by cases ho),fun _ _ _ _ ho=>(by cases ho),Bel.refl _ _,fun k hk=>(hS k hk).1,fun _ _ hb=>(by simp at hb),fun _ hk=>hk,fun _ hk => .inl hk⟩
 obtain ⟨G',hm,hrv⟩:=JV (fun _=>rfl) args us fp fw _ _ hrel0 hu rfl hnd (fun k hk=>⟨fun hz=>(hS k hz).2 hk,.inr hk⟩) (fun k hk => .inr (Kk args hu k hk)) (fun k hk=>⟨fun b cs hb=>(by cases hb),fun o I ho=>(by cases ho)⟩) (fun i g hi=>by
  show (FL args us).getD (0+i) 0=g
  rw [Nat.zero_add,List.getD_eq_getElem?_getD,hi];rfl)
 have hr1:=hm.rel
 have hrel:Rel ⟨w,fun k=>k ∈ fp,fun k=>k ∈ fp,fun i=>(FL args us).getD i 0,fun _=>none,S,fun _ h=>h,fun _ h=>h,Nq hg (fun k hk=>(hS k (hgs k hk)).2),hgs⟩ G' (s0P fn.ntmps args) { tmps:=us.toArray++Array.replicate (fn.ntmps-us.toArray.size) undef,defers:=[] } w:=by
  refine ⟨hr1.nt,rfl,fun t v ht => ?_,hr1.bx,hr1.inj,hr1.own,hr1.dis,hr1.bel,hr1.zl,hr1.pb,hr1.zz⟩
  obtain ⟨_,u,hu',hv⟩:=IA _ us 0 t v hrv ht
  refine ⟨u, ?_,hv⟩
  have hlt:t<us.length:=by
   simp only [Nat.sub_zero] at hu'
   exact (List.getElem?_eq_some_iff.1 hu').1
  rw [Array.getElem?_append_left (by simpa using hlt)]
  simpa using hu'
 refine wp_mono (h _ _ _ w hrel) fun e a' w' ⟨G2,s',hr',he,hret,hout,hnb,hnd2⟩ => ?_
 obtain ⟨G2,hr',hq⟩:=hr'.flq
 obtain ⟨n1,n2,n3⟩:=List.nodup_append.1 hnd2
 obtain ⟨avs,hav⟩:=HM hret
 obtain ⟨us',h1,h2⟩:=Gt hr' _ _ hav
 rw [hav] at hret n1 n3
 obtain ⟨vs,f1,w1,q0,q1,q2,q3,q4⟩:=JU hr' hq h2 hret n1
 obtain ⟨f2,w2,p1,p2,p3,p4⟩:=MZ hr' hq hout hnb n2
 have hpo:s'.pb.length=outs.length:=by
  have:∀ (bs:List Nat) (outs:List (List CD)),rOs s' bs outs→bs.length=outs.length:=by
   intro bs
   induction bs with
   | nil=>intro o h;cases o <;> first | rfl | exact h.elim
   | cons b bs ih=>intro o h;cases o <;> first | exact h.elim | (simp only [List.length_cons,ih _ h.2])
  exact this _ _ hout
 have hpb:s'.pb.map G2.β=FL args us:=by
  refine List.ext_getElem (by rw [List.length_map,hpo,← hno,hpl]) fun i hi1 hi2 => ?_
  rw [List.getElem_map]
  have:=(hr'.pb i _ (List.getElem?_eq_getElem (by simpa using hi1))).2.1
  rw [← this]
  show (FL args us).getD i 0=_
  rw [List.getD_eq_getElem?_getD,List.getElem?_eq_getElem hi2];rfl
 rw [hpb] at p1
 have hfr:∀ k ∈ f1++f2,(¬ G2.Z k∧(w.heap.size≤k∨k ∈ fp))∧k<w'.heap.size:=fun k hk=>by
  rcases List.mem_append.1 hk with hk | hk
  ·exact Fr.lt hr' (q3 k hk)
  ·exact Fr.lt hr' (p3 k hk)
 have hpost:a'.defers=[]∧∃ v,(results fn a'.tmps).run P w' = .ok v w'∧(Bel (· ∈ fp) w w'∧∃ S' vs f1 f2 fw1 fw2,
  ((∀ k,S k→S' k)∧(∀ k,S' k→S k∨k ∈ fp∨w.heap.size≤k)∧∀ k,S' k→k<w'.heap.size∧k ∉ f1++f2)∧(Ending.returned v) = .returned (Nf (Fq rs vs))∧BG w' S' (Br rs) vs f1 fw1∧FM w' S' (FL args us) outs f2 fw2 ∧
  (f1++f2).Nodup∧(∀ k ∈ f1++f2,k<w'.heap.size∧(k ∈ fp∨w.heap.size≤k))∧∀ k ∈ fw1++fw2,k ∈ fp∨w.heap.size≤k):=by
  refine ⟨hr'.df,Nf us', ?_,hr'.bel,G2.Z,vs,f1,f2,w1,w2,⟨hr'.zz.1,hr'.zz.2,fun k hk=>⟨hr'.zl k hk,fun hk'=>(hfr k hk').1.1 hk⟩⟩,by rw [← q0],q1,p1,List.nodup_append.2 ⟨q2,p2,fun k hk k' hk' e => ?_⟩,fun k hk=>⟨(hfr k hk).2,(hfr k hk).1.2.symm⟩,fun k hk => ?_⟩
  ·rw [Fj,Array.mapM_eq_mapM_toList]
   simp only [map_eq_pure_bind,Sem.run_bind,h1,Result.andThen_ok,Sem.run_pure]
   match us' with
   | []=>rfl
   | [u]=>rfl
   | u :: u2 :: r=>simp [Nf]
  ·subst e
   exact Fr.ne hr' (q3 k hk) (p3 k hk') (fun o ho ho'=>n3 o ho o ho' rfl) (by simp)
  ·rcases List.mem_append.1 hk with hk | hk
   ·exact (q4 k hk).2.symm
   ·exact (p4 k hk).2.symm
 rcases he with rfl | rfl <;> exact hpost
def fQP (P:Program) (fn:Func) (outs:List (List CD)) (rs:List RD) (e:Exit) (s:AS):Prop:=(e = .ret∨e = .normal)∧CC P fn s outs rs
theorem Ar {P:Program} {fn:Func} {outs:List (List CD)} {rs:List RD}:∀ c s,¬ fQP P fn outs rs (.panic c) s:=fun c s h=>by rcases h.1 with h | h <;> cases h
theorem Ad {P : Program} {f : FuncId} {fn : Func} {c : Code} {args : List PA} {outs : List (List CD)} {rs : List RD} (hf : P.funcs[f]? = some fn) (hb : fn.body = some c) (hn : (fn.name == "runtime.NumGoroutine") = false) (hnt : args.length ≤ fn.ntmps) (hno : nPs args = outs.length)
  (h:Ct P 400 [.code c] (s0P fn.ntmps args) (fQP P fn outs rs)):Bc P f args outs rs :=
 Ub hf hb hn hnt hno (Dm (Aa 400 _ _ _ h))
def AS.fzN (o:Nat) (s:AS):AS:=match s.owf o with | some I=>s.fz o I.d | none=>s
def AS.fzL:List Nat→AS→AS
 | [],s=>s
 | o :: os,s=>AS.fzL os (AS.fzN o s)
theorem Rel.fzN {w0:Aq} {G:Gh} {s:AS} {a:Act} {w:World} (h:Rel w0 G s a w) (o:Nat):∃ G',Rel w0 G' (AS.fzN o s) a w:=by
 unfold AS.fzN
 cases hI:s.owf o with
 | none=>exact ⟨G,h⟩
 | some I=>exact ⟨_,h.fz hI⟩
theorem Rel.fzL {w0:Aq} {a:Act} {w:World}:∀ (os:List Nat) {G:Gh} {s:AS},Rel w0 G s a w→∃ G',Rel w0 G' (AS.fzL os s) a w
 | [],G,s,h=>⟨G,h⟩
 | o :: os,G,s,h=>by
  obtain ⟨G1,h1⟩:=h.fzN o
  exact Rel.fzL os h1
def fQF (P:Program) (fn:Func) (outs:List (List CD)) (rs:List RD) (os:List Nat) (e:Exit) (s:AS):Prop:=fQP P fn outs rs e (AS.fzL os s)
theorem BT {P:Program} {fn:Func} {outs:List (List CD)} {rs:List RD} {os:List Nat}:∀ c s,¬ fQF P fn outs rs os (.panic c) s:=fun c s h=>Ar c _ h
theorem BZ {P : Program} {f : FuncId} {fn : Func} {c : Code} {args : List PA} {outs : List (List CD)} {rs : List RD} (os : List Nat) (hf : P.funcs[f]? = some fn) (hb : fn.body = some c) (hn : (fn.name == "runtime.NumGoroutine") = false) (hnt : args.length ≤ fn.ntmps) (hno : nPs args = outs.length)
  (h:Ct P 400 [.code c] (s0P fn.ntmps args) (fQF P fn outs rs os)):Bc P f args outs rs :=
 Ub hf hb hn hnt hno fun w0 G a w hr=>wp_mono (Dm (Aa 400 _ _ _ h) w0 G a w hr) fun e a' w' ⟨G',s',hr',hq⟩=>by
  obtain ⟨G2,h2⟩:=Rel.fzL os hr'
  exact ⟨G2,_,h2,hq⟩
def rmB (x:Nat):List (Nat × List AV)→List (Nat × List AV)
 | []=>[]
 | (c,v) :: r=>if c=x then rmB x r else (c,v) :: rmB x r
def EW:List Nat→List (Nat × List AV)→List (Nat × List AV)
 | [],l=>l
 | x :: xs,l=>EW xs (rmB x l)
def AS.kb (s:AS) (l:List Nat):AS:={ s with bx:=EW l s.bx }
theorem Hz (x:Nat):∀ (l:List (Nat × List AV)) (b:Nat),AO (rmB x l) b=if b=x then none else AO l b
 | [],b=>by unfold rmB AO;simp
 | (c,v) :: r,b=>by
  unfold rmB
  split
  ·rename_i e
   subst e
   rw [Hz c r b,Az]
   split <;> rfl
  ·rename_i e
   rw [Az,Az,Hz x r b]
   by_cases h1:b=c
   ·rw [if_pos h1,if_pos h1,if_neg (by rw [h1];exact e)]
   ·rw [if_neg h1,if_neg h1]
theorem Dr:∀ (xs:List Nat) (l:List (Nat × List AV)) (b:Nat),AO (EW xs l) b=if b ∈ xs then none else AO l b
 | [],l,b=>by simp [EW]
 | x :: xs,l,b=>by
  rw [EW,Dr xs,Hz]
  by_cases h1:b ∈ xs
  ·simp [h1]
  ·by_cases h2:b=x
   ·simp [h2]
   ·simp [h1,h2]
theorem Rel.rebox {w0:Aq} {G:Gh} {s:AS} {a:Act} {w:World} (h:Rel w0 G s a w) {x:Nat} {cs:List AV} {us:List Value} {T:TypeId} (hx:x<s.nx) (hr:RVs G w s.owf s.nx cs us) (hB:Blk w (G.β x) T us.toArray) (hz:¬ G.Z (G.β x)∧(w0.heap.size≤G.β x∨w0.wr (G.β x)))
  (hnb:∀ b cs,b≠x→AO s.bx b=some cs→G.β b≠G.β x) (hno:∀ o I,s.owf o=some I→G.β x ∉ G.B o):Rel w0 G { s with bx:=(x,cs) :: s.bx } a w:=by
 refine ⟨h.nt,h.df,h.tm,fun b cs' hb => ?_,fun b b' c1 c2 hb hb' e => ?_,fun o I ho => ?_,h.dis,h.bel,h.zl,h.pb,h.zz⟩
 ·simp only [Az] at hb
  split at hb
  ·rename_i e;subst e
   injection hb with hb;subst hb
   exact ⟨hx,hz,us,T,hB,hr⟩
  ·exact h.bx b cs' hb
 ·simp only [Az] at hb hb'
  by_cases e1:b=x
  ·by_cases e2:b'=x
   ·rw [e1,e2]
   ·rw [if_neg e2] at hb'
    exact absurd (by rw [← e,e1]) (hnb b' c2 e2 hb')
  ·rw [if_neg e1] at hb
   by_cases e2:b'=x
   ·exact absurd (by rw [e,e2]) (hnb b c1 e1 hb)
   ·rw [if_neg e2] at hb'
    exact h.inj b b' c1 c2 hb hb' e
 ·obtain ⟨h1,h2,h3⟩:=h.own o I ho
  refine ⟨h1,h2,fun b cs' hb => ?_⟩
  simp only [Az] at hb
  split at hb
  ·rename_i e;subst e;exact hno o I ho
  ·exact h3 b cs' hb
theorem Rel.aft {w0:Aq} {G:Gh} {s:AS} {a:Act} {w w':World} (h:Rel w0 G s a w) {e b fp fw:List Nat} {Z1:Nat→Prop} (hb:Bel (· ∈ fw) w w') (hfp:∀ k ∈ fp,Fr G s e b k) (hfw:∀ k ∈ fw,k ∈ fp∧(w0.heap.size≤k∨w0.wr k))
  (hz1:∀ k,G.Z k→Z1 k) (hz2:∀ k,Z1 k→G.Z k∨k ∈ fp∨w.heap.size≤k) (hz3:∀ k,Z1 k→k<w'.heap.size):Rel w0 { G with Z:=Z1 } ((s.kl e).kb b) a w':=by
 have hbs:=h.bel.size
 have hun:∀ k,k<w.heap.size→k ∉ fp→w'.heap[k]? = w.heap[k]? := fun k hk hn=>hb.block k hk fun hk'=>hn (hfw k hk').1
 have howf:∀ o I,((s.kl e).kb b).owf o=some I→s.owf o=some I∧o ∉ e:=fun o I ho=>IC ho
 have hbx:∀ x cs,AO ((s.kl e).kb b).bx x=some cs→AO s.bx x=some cs∧x ∉ b:=fun x cs hx=>by
  unfold AS.kb at hx
  simp only at hx
  rw [Dr] at hx
  split at hx
  ·cases hx
  ·rename_i hn;exact ⟨hx,hn⟩
 have hBo:∀ o I,s.owf o=some I→o ∉ e→∀ k ∈ G.B o,k ∉ fp:=fun o I ho hn k hk hk'=>by
  exact Fr.ne h (hfp k hk') (.inl ⟨o,List.mem_cons_self,I,ho,hk⟩:Fr G s [o] [] k) (fun q hq hq'=>hn (List.mem_singleton.1 hq' ▸ hq)) (by simp)
 have hxo:∀ x cs,AO s.bx x=some cs→x ∉ b→G.β x ∉ fp:=fun x cs hl hn hk'=>by
  exact Fr.ne h (hfp _ hk') (.inr ⟨x,List.mem_cons_self,cs,hl,rfl⟩:Fr G s [] [x] _) (by simp) (fun q hq hq'=>hn (List.mem_singleton.1 hq' ▸ hq))
 have hZ:∀ k,G.Z k→k ∉ fp:=fun k hk hk'=>(Fr.lt h (hfp k hk')).1.1 hk
 have hbz:∀ k,G.Z k→Z1 k∧w'.heap[k]? = w.heap[k]? := fun k hk=>⟨hz1 k hk,hun k (h.zl k hk) (hZ k hk)⟩
 have hturn:∀ o I,o<s.nx→((s.kl e).kb b).owf o=some I→s.owf o=some I∧G.root o=G.root o∧G.B o=G.B o∧∀ k ∈ G.B o,w'.heap[k]? = w.heap[k]? := fun o I _ ho=>by
  obtain ⟨h1,h2⟩:=howf o I ho
  exact ⟨h1,rfl,rfl,fun k hk=>hun k ((h.own o I h1).2.1.1 k hk).2 (hBo o I h1 h2 k hk)⟩
 refine ⟨h.nt,h.df,fun t x ht => ?_,fun x cs hx => ?_,fun x y c1 c2 hx hy he => ?_,fun o I ho => ?_,fun o o' I I' ho ho' hne => ?_, ?_,hz3,h.pb,fun k hk=>hz1 k (h.zz.1 k hk),fun k hk => ?_⟩
 ·obtain ⟨u,hu,hr⟩:=h.tm t x ht
  exact ⟨u,hu,RV.turn (G:=G) (G':={ G with Z:=Z1 }) (Nat.le_refl _) hbz (fun _ _=>rfl) hturn x u hr⟩
 ·obtain ⟨h1,h2⟩:=hbx x cs hx
  obtain ⟨q1,q2,us,T,q3,q4⟩:=h.bx x cs h1
  refine ⟨q1,⟨fun hz => ?_,q2.2⟩,us,T,(hun _ q3.lt (hxo x cs h1 h2)).trans q3,RVs.turn (G:=G) (G':={ G with Z:=Z1 }) (Nat.le_refl _) hbz (fun _ _=>rfl) hturn cs us q4⟩
  rcases hz2 _ hz with hz | hz | hz
  ·exact q2.1 hz
  ·exact hxo x cs h1 h2 hz
  ·have:=q3.lt;show False;simp only at hz;omega
 ·exact h.inj x y c1 c2 (hbx x c1 hx).1 (hbx y c2 hy).1 he
 ·obtain ⟨h1,h2⟩:=howf o I ho
  obtain ⟨q1,q2,q3⟩:=h.own o I h1
  have hk1:=q2.keep (w':=w') hb.size (fun k hk=>(hbz k hk).2) (fun k hk=>hun k (q2.1 k hk).2 (hBo o I h1 h2 k hk))
  refine ⟨q1,hk1.z hz1 (fun k hk hz => ?_),fun x cs hx=>q3 x cs (hbx x cs hx).1⟩
  rcases hz2 k hz with hz | hz | hz
  ·exact (q2.1 k hk).1.1 hz
  ·exact hBo o I h1 h2 k hk hz
  ·have:=(q2.1 k hk).2;omega
 ·exact h.dis o o' I I' (howf o I ho).1 (howf o' I' ho').1 hne
 ·exact ⟨hb.os.trans h.bel.os,hb.tape.trans h.bel.tape,hb.output.trans h.bel.output,Nat.le_trans hbs hb.size,fun k hk hm=>(hb.block k (Nat.lt_of_lt_of_le hk hbs) fun hk'=>(hfw k hk').2.elim (fun e=>by omega) hm).trans (h.bel.block k hk hm)⟩
 ·rcases hz2 k hk with hk | hk | hk
  ·exact h.zz.2 k hk
  ·exact (Fr.lt h (hfp k hk)).1.2.elim (fun e => .inr (.inr e)) (fun e => .inr (.inl e))
  ·exact .inr (.inr (by omega))
def noC:CD→Bool
 | .o _=>true
 | .a _ _=>true
 | .v _=>true
 | _=>false
theorem aCh {w:World} {S S':Nat→Prop}:∀ {c:CD} {v:Value} {f fw:List Nat},noC c=true→Fl w S c v f fw→Fl w S' c v f fw
 | .o d,v,f,fw,_,h=>by unfold Fl at h ⊢; exact h
 | .a T d,v,f,fw,_,h=>by unfold Fl at h ⊢; exact h
 | .q T d,v,f,fw,e,h=>by cases e
 | .r d,v,f,fw,e,h=>by cases e
 | .v x,v,f,fw,_,h=>by unfold Fl at h ⊢; exact h
theorem KJ {w:World} {S S':Nat→Prop}:∀ {cs:List CD} {vs:List Value} {f fw:List Nat},cs.all noC=true→BG w S cs vs f fw→BG w S' cs vs f fw
 | [],v,f,fw,_,h=>by unfold BG at h ⊢; exact h
 | c :: cs,v,f,fw,e,h=>by
  simp only [List.all_cons,Bool.and_eq_true] at e
  unfold BG at h ⊢
  obtain ⟨v,r,f1,f2,w1,w2,h1,h2,h3,h4,h5⟩:=h
  exact ⟨v,r,f1,f2,w1,w2,h1,h2,h3,aCh e.1 h4,KJ e.2 h5⟩
theorem Na {w:World} {S S':Nat→Prop}:∀ {gs:List Nat} {outs:List (List CD)} {f fw:List Nat},(outs.all fun cs=>cs.all noC)=true→FM w S gs outs f fw→FM w S' gs outs f fw
 | [],[],f,fw,_,h=>by unfold FM at h ⊢; exact h
 | [],_ :: _,f,fw,_,h=>by unfold FM at h;exact h.elim
 | _ :: _,[],f,fw,_,h=>by unfold FM at h;exact h.elim
 | g :: gs,cs :: outs,f,fw,e,h=>by
  simp only [List.all_cons,Bool.and_eq_true] at e
  unfold FM at h ⊢
  obtain ⟨T,us,f1,f2,w1,w2,h1,h2,h3,h4,h5⟩:=h
  exact ⟨T,us,f1,f2,w1,w2,h1,KJ e.1 h2,h3,h4,Na (by simpa using e.2) h5⟩
def mkO:AS→List Nat→List (List CD)→AS
 | s,x :: xs,cs :: outs=>let r:=mkC s cs;mkO { r.2 with bx:=(x,r.1) :: r.2.bx } xs outs
 | s,_,_=>s
theorem Si {w0:Aq} {a:Act} {w:World}:∀ (xs:List Nat) (outs:List (List CD)) (f fw:List Nat) (G:Gh) (s:AS) {β0:Nat→Nat},Rel w0 G s a w→FM w G.Z (xs.map β0) outs f fw→(∀ x ∈ xs,x<s.nx∧G.β x=β0 x∧AO s.bx x=none∧(¬ G.Z (β0 x)∧(w0.heap.size≤β0 x∨w0.wr (β0 x)))) →
  f.Nodup→(∀ k ∈ f,¬ G.Z k∧(w0.heap.size≤k∨w0.mv k))→(∀ k ∈ fw,w0.heap.size≤k∨w0.wr k)→(∀ k ∈ f,(∀ b cs,AO s.bx b=some cs→G.β b≠k)∧∀ o I,s.owf o=some I→k ∉ G.B o) →
  ∃ G',Rel w0 G' (mkO s xs outs) a w∧∀ v u,RV G w s.owf s.nx v u→RV G' w (mkO s xs outs).owf (mkO s xs outs).nx v u
 | [],[],f,fw,G,s,β0,h,ho,hx,hn,hb,hw,hf=>⟨G,by unfold mkO;exact h,fun v u hv=>by unfold mkO;exact hv⟩
 | [],_ :: _,f,fw,G,s,β0,h,ho,hx,hn,hb,hw,hf=>by rw [List.map_nil] at ho;unfold FM at ho;exact ho.elim
 | _ :: _,[],f,fw,G,s,β0,h,ho,hx,hn,hb,hw,hf=>by rw [List.map_cons] at ho;unfold FM at ho;exact ho.elim
 | x :: xs,cs :: outs,f,fw,G,s,β0,h,ho,hx,hn,hb,hw,hf=>by
  rw [List.map_cons] at ho
  unfold FM at ho
  obtain ⟨T,us,f1,f2,w1,w2,h1,h2,rfl,rfl,h3⟩:=ho
  obtain ⟨n0,n1⟩:=List.nodup_cons.1 hn
  obtain ⟨n2,n3,n4⟩:=List.nodup_append.1 n1
  obtain ⟨x1,x2,x3,x4⟩:=hx x (by simp)
  obtain ⟨G',m1,m2,m3,m4,m5,m6,m7,m8,m9⟩:=Jr cs us f1 w1 G s h h2 (fun _ h=>h) n2 (fun k hk=>hb k (by simp [hk])) (fun k hk=>hw k (by simp [hk])) (fun k hk=>hf k (by simp [hk]))
  have hg:=hf (β0 x) (by simp)
  have hβ:∀ y ∈ x :: xs,G'.β y=β0 y:=fun y hy=>(m8 y (hx y hy).1).trans (hx y hy).2.1
  have hr:=m1.rebox (x:=x) (T:=T) (Nat.lt_of_lt_of_le x1 m7) m2 (by rw [hβ x (by simp)];exact h1) (by rw [hβ x (by simp),m4];exact x4) (fun b cs' hne hl e=>by
    rw [m5] at hl
    exact hg.1 b cs' hl (by rw [← m8 b (h.bx b cs' hl).1,e,hβ x (by simp)])) (fun o I ho hk=>by
    rw [hβ x (by simp)] at hk
    rcases m9 o I ho with ⟨q1,q2⟩ | q
    ·exact hg.2 o I q1 (q2 ▸ hk)
    ·exact n0 (by simp [q _ hk]))
  obtain ⟨G2,r1,r2⟩:=Si xs outs f2 w2 G' { (mkC s cs).2 with bx:=(x,(mkC s cs).1) :: (mkC s cs).2.bx } (β0:=β0) hr (by rw [m4];exact h3) (fun y hy=>by
    obtain ⟨y1,y2,y3,y4⟩:=hx y (by simp [hy])
    refine ⟨Nat.lt_of_lt_of_le y1 m7,hβ y (by simp [hy]), ?_,by rw [m4];exact y4⟩
    simp only [Az]
    have hyx:y≠x:=fun e=>by
     subst e
     have:β0 y ∈ f2:=by
      have key:∀ (gs:List Nat) (outs:List (List CD)) (f fw:List Nat),FM w G.Z gs outs f fw→∀ g ∈ gs,g ∈ f:=by
       intro gs
       induction gs with
       | nil=>intro _ _ _ _ g hg;cases hg
       | cons g gs ih =>
        intro outs f fw ho q hq
        cases outs with
        | nil=>unfold FM at ho;exact ho.elim
        | cons cs outs =>
         unfold FM at ho
         obtain ⟨_,_,_,f2',_,_,_,_,rfl,_,h5⟩:=ho
         rcases List.mem_cons.1 hq with rfl | hq
         ·simp
         ·simp [ih _ _ _ h5 q hq]
      exact key _ _ _ _ h3 _ (List.mem_map.2 ⟨y,hy,rfl⟩)
     exact n0 (by simp [this])
    rw [if_neg hyx,m5];exact y3) n3 (fun k hk=>by rw [m4];exact hb k (by simp [hk])) (fun k hk=>hw k (by simp [hk])) (fun k hk=>by
    obtain ⟨q1,q2⟩:=hf k (by simp [hk])
    refine ⟨fun b cs' hl e => ?_,fun o I ho hk' => ?_⟩
    ·simp only [Az] at hl
     split at hl
     ·rename_i e2
      subst e2
      rw [hβ b (by simp)] at e
      exact n0 (by rw [e];simp [hk])
     ·rw [m5] at hl
      exact q1 b cs' hl (by rw [← m8 b (h.bx b cs' hl).1];exact e)
    ·rcases m9 o I ho with ⟨q3,q4⟩ | q
     ·exact q2 o I q3 (q4 ▸ hk')
     ·exact n4 k (q k hk') k hk rfl)
  exact ⟨G2,by unfold mkO;exact r1,fun v u hv=>by unfold mkO;exact r2 v u (m3 v u hv)⟩
theorem HN {nx:Nat} {G:Gh} {w:World} {owf:Nat→Option Cb}:∀ (rs:List RD) (as':List AV) (us:List Value),RVs G w owf nx as' us→as'.length=(Br rs).length→RVs G w owf nx (BN rs as') (Fq rs us)
 | [],as',us,h,hl=>by unfold BN Fq RVs;rfl
 | .one d :: rs,as',us,h,hl=>by
  match as',us,h with
  | [],us,h=>simp [Br] at hl
  | x :: xs,us,h =>
   unfold RVs at h
   obtain ⟨u,r,rfl,h1,h2⟩:=h
   unfold BN Fq RVs
   exact ⟨u,_,rfl,h1,HN rs xs r h2 (by simpa [Br] using hl)⟩
 | .ag ds :: rs,as',us,h,hl=>by
  unfold BN Fq RVs
  refine ⟨_,_,rfl,by unfold RV;exact ⟨_,rfl,h.take _⟩,HN rs _ _ (h.drop _) (by simp [Br] at hl ⊢; omega)⟩
theorem Dk:∀ (cs:List CD) (s:AS),(mkC s cs).1.length=cs.length
 | [],s=>rfl
 | .o (.int _) :: ds,s=>by simp [mkC,Dk ds s]
 | .o (.bool _) :: ds,s=>by simp [mkC,Dk ds s]
 | .o (.str _) :: ds,s=>by simp [mkC,Dk ds s]
 | .o .any :: ds,s=>by simp [mkC,Dk ds s]
 | .o (.byt _) :: ds,s=>by simp [mkC,Dk ds s]
 | .o (.rows sz n cs) :: ds,s=>by simp [mkC,Dk ds _]
 | .a _ _ :: ds,s=>by simp [mkC,Dk ds _]
 | .q _ _ :: ds,s=>by simp [mkC,Dk ds _]
 | .r _ :: ds,s=>by simp [mkC,Dk ds s]
 | .k _ :: ds,s=>by simp [mkC,Dk ds s]
 | .v _ :: ds,s=>by simp [mkC,Dk ds s]
def Eh (s:AS) (e b:List Nat) (outs:List (List CD)) (rs:List RD):AS:=mkO (mkC ((s.kl e).kb b) (Br rs)).2 b outs
def En (s:AS) (e b:List Nat) (rs:List RD):AV:=QD (BN rs (mkC ((s.kl e).kb b) (Br rs)).1)
theorem KY {P:Program} {w0:Aq} {G:Gh} {s t:AS} {a:Act} {w:World} (h:Rel w0 G s a w) {F:FuncId} {cap:List AV} {args:Array Operand} {tys:Array TypeId} {f:Operand} {dst:Option Tmp} {ty:TypeId} {pos:String} {af:Array Edge} {gd:Option (Nat × Bool)} {ps:List PA} {outs:List (List CD)} {rs:List RD} {e b:List Nat}
  (hc:Bc P F ps outs rs) (hf:s.ev f = .fn F cap) (he:ePs s (args.toList.map s.ev++cap) ps=e) (hb:bPs (args.toList.map s.ev++cap) ps=b)
  (htt:(t=(s.kl e).kb b∧((Br rs).all noC && outs.all fun cs=>cs.all noC)=true)∨t=s.em) (ha:mPs t s (args.toList.map s.ev++cap) ps) (hne:e.Nodup) (hnb:b.Nodup) {Q:Exit→Act→World→Prop} {K:Act→World→Prop}
  (hK:∀ a' w',(∃ G',Rel w0 G' ((Eh s e b outs rs).pt dst (En s e b rs)) a' w')→K a' w') :
  (Oper.mk dst (.call ⟨.value f,args,tys⟩) ty pos af gd).wp P a w K Q:=by
 obtain ⟨G,h,hq⟩:=h.flq
 have hfv:=h.ev f
 rw [hf] at hfv
 unfold RV at hfv
 obtain ⟨us,hu,hr⟩:=hfv
 have hargs:RVs G w s.owf s.nx (args.toList.map s.ev++cap) (args.toList.map a.eval++us):=(h.evs args.toList).append _ _ _ _ hr
 have hrel0:Rel w0 { G with Z:=G.Z } ((s.kl e).kb b) a w:=by
  have:=(h.aft (e:=e) (b:=b) (fp:=[]) (fw:=[]) (w':=w) (Z1:=G.Z) (Bel.refl _ _) (by simp) (by simp) (fun _ h=>h) (fun _ h => .inl h) h.zl)
  exact this
 have hrt:Rel w0 G t a w∧t.nx=s.nx∧(∀ o I,t.owf o=some I→s.owf o=some I)∧∀ k,ET G t k→G.Z k∨((∃ o I,s.owf o=some I∧o ∉ e∧k ∈ G.B o)∨∃ x cs,AO s.bx x=some cs∧x ∉ b∧G.β x=k):=by
  rcases htt with ⟨rfl,_⟩ | rfl
  ·refine ⟨hrel0,rfl,fun o I ho=>(IC ho).1,fun k hk => ?_⟩
   rcases hk with hk | ⟨o,I,ho,hk⟩ | ⟨x,cs,hx,hk⟩
   ·exact .inl hk
   ·obtain ⟨h1,h2⟩:=IC (s:=s) (l:=e) ho
    exact .inr (.inl ⟨o,I,h1,h2,hk⟩)
   ·unfold AS.kb at hx
    simp only at hx
    rw [Dr] at hx
    split at hx
    ·cases hx
    ·rename_i hn;exact .inr (.inr ⟨x,cs,hx,hn,hk⟩)
  ·exact ⟨h.em,rfl,LE,fun k hk => .inl (Em hk)⟩
 obtain ⟨hrt1,hrt2,hrt3,hrt4⟩:=hrt
 obtain ⟨fp,fw,hrep,hnd,hfr,hfw,hptr,hlive⟩:=Kd h hq hrt1 hrt2 hrt3 ps hargs ha (by rw [he];exact hne) (by rw [hb];exact hnb)
 rw [he,hb] at hfr
 rw [hb] at hptr hlive
 have hS:∀ k,ET G t k→k<w.heap.size∧k ∉ fp:=fun k hk=>by
  refine ⟨hrt1.reach k hk,fun hk' => ?_⟩
  have h1:=hfr k hk'
  rcases hrt4 k hk with hz | ⟨o,I,ho,hno,hk⟩ | ⟨x,cs,hx,hnx,rfl⟩
  ·exact (Fr.lt h h1).1.1 hz
  ·exact Fr.ne h h1 (.inl ⟨o,List.mem_cons_self,I,ho,hk⟩:Fr G s [o] [] k) (fun q hq hq'=>hno (List.mem_singleton.1 hq' ▸ hq)) (by simp)
  ·exact Fr.ne h h1 (.inr ⟨x,List.mem_cons_self,cs,hx,rfl⟩:Fr G s [] [x] _) (by simp) (fun q hq hq'=>hnx (List.mem_singleton.1 hq' ▸ hq))
 obtain ⟨⟨fn,hfn,hbody,hname⟩,hcon⟩:=hc
 have hcall:=hcon w _ _ _ _ (w0.gi w h.bel.size h.bel.block) (fun k hk => .inl (h.zz.1 k (w0.gz k hk))) hS hrep hnd
 unfold Oper.wp
 have hrun:(execOp a.eval ⟨dst,.call { callee:=.value f,args:=args,argTypes:=tys },ty,pos,af,gd⟩).run P w = .ok (.enter F (args.toList.map a.eval++us).toArray) w:=by
  have e1:((#[]:Array Value)++args.map a.eval)++us.toArray=(args.toList.map a.eval++us).toArray:=by
   apply Array.ext'; simp
  simp only [execOp,resolve,Deferred.ofValue,hu,pure_bind,invoke,e1,callFunc,Sem.run_bind,program,Sem.run,Result.andThen_ok,hfn,hname,hbody,Bool.false_eq_true,if_false,Sem.run_pure]
 rw [hrun]
 refine hcall.mono fun en w' ⟨hbel,S',vs,f1,f2,fw1,fw2,⟨hs1,hs2,hs3⟩,hen,hown,hout,hnd2,hsub,hsubw⟩ => ?_
 subst hen
 have hbs:=h.bel.size
 have hbz:=hbel.size
 rw [hptr] at hout
 obtain ⟨Z1,z1,z2,z3,z4,z5⟩:∃ Z1:Nat→Prop,(∀ k,G.Z k→Z1 k)∧(∀ k,Z1 k→G.Z k∨k ∈ fp∨w.heap.size≤k)∧(∀ k,Z1 k→k<w'.heap.size∧k ∉ f1++f2)∧BG w' Z1 (Br rs) vs f1 fw1∧FM w' Z1 (b.map G.β) outs f2 fw2:=by
  rcases htt with ⟨_,hno⟩ | rfl
  ·simp only [Bool.and_eq_true] at hno
   exact ⟨G.Z,fun _ h=>h,fun _ h => .inl h,fun k hk=>⟨Nat.lt_of_lt_of_le (h.zl k hk) hbz,(hs3 k (hs1 k (.inl hk))).2⟩,KJ hno.1 hown,Na hno.2 hout⟩
  ·exact ⟨S',fun k hk=>hs1 k (.inl hk),fun k hk=>(hs2 k hk).imp Em id,hs3,hown,hout⟩
 have hr1:=h.aft (e:=e) (b:=b) (fw:=fp) hbel hfr (fun k hk=>⟨hk,(Fr.lt h (hfr k hk)).1.2.imp id (w0.mw k)⟩) z1 z2 (fun k hk=>(z3 k hk).1)
 have hfree:∀ k ∈ f1++f2,(¬ Z1 k∧(w0.heap.size≤k∨w0.mv k))∧(∀ x cs,AO ((s.kl e).kb b).bx x=some cs→G.β x≠k)∧∀ o I,((s.kl e).kb b).owf o=some I→k ∉ G.B o:=fun k hk=>by
  obtain ⟨q1,q2⟩:=hsub k hk
  refine ⟨⟨fun hz=>(z3 k hz).2 hk, ?_⟩,fun x cs hx e2 => ?_,fun o I ho hko => ?_⟩
  ·rcases q2 with q2 | q2
   ·exact (Fr.lt h (hfr k q2)).1.2
   ·exact .inl (by omega)
  ·unfold AS.kb at hx
   simp only at hx
   rw [Dr] at hx
   split at hx
   ·cases hx
   ·rename_i hn
    rcases q2 with q2 | q2
    ·exact Fr.ne h (hfr k q2) (.inr ⟨x,List.mem_cons_self,cs,hx,e2⟩:Fr G s [] [x] k) (by simp) (fun q hq hq'=>hn (List.mem_singleton.1 hq' ▸ hq))
    ·obtain ⟨_,_,_,_,h7,_⟩:=h.bx x cs hx
     have:=h7.lt;omega
  ·obtain ⟨h1,h2⟩:=IC (s:=s) (l:=e) ho
   rcases q2 with q2 | q2
   ·exact Fr.ne h (hfr k q2) (.inl ⟨o,List.mem_cons_self,I,h1,hko⟩:Fr G s [o] [] k) (fun q hq hq'=>h2 (List.mem_singleton.1 hq' ▸ hq)) (by simp)
   ·have:=((h.own o I h1).2.1.1 k hko).2;omega
 have hwr:∀ k ∈ fw1++fw2,w0.heap.size≤k∨w0.wr k:=fun k hk=>(hsubw k hk).elim (fun h1=>(Fr.lt h (hfr k h1)).1.2.imp id (w0.mw k)) (fun h1 => .inl (by omega))
 obtain ⟨d1,d2,d3⟩:=List.nodup_append.1 hnd2
 obtain ⟨G',m1,m2,m3,m4,m5,m6,m7,m8,m9⟩:=Jr (Br rs) vs f1 fw1 { G with Z:=Z1 } _ hr1 z4 (fun _ h=>h) d1 (fun k hk=>(hfree k (by simp [hk])).1) (fun k hk=>hwr k (by simp [hk])) (fun k hk=>(hfree k (by simp [hk])).2)
 obtain ⟨G2,r1,r2⟩:=Si b outs f2 fw2 G' (mkC ((s.kl e).kb b) (Br rs)).2 (β0:=G.β) m1 (by rw [m4];exact z5) (fun x hx=>by
   obtain ⟨cs,hl⟩:=hlive x hx
   obtain ⟨q1,q2,us',T,q3,q4⟩:=h.bx x cs hl
   refine ⟨Nat.lt_of_lt_of_le q1 m7,m8 x q1, ?_, ?_,q2.2⟩
   ·rw [m5]
    show AO (EW b _) x=none
    rw [Dr,if_pos hx]
   ·rw [m4]
    intro hz
    have key:∀ (gs:List Nat) (outs:List (List CD)) (f fw:List Nat),FM w' Z1 gs outs f fw→∀ g ∈ gs,g ∈ f:=by
     intro gs
     induction gs with
     | nil=>intro _ _ _ _ g hg;cases hg
     | cons g gs ih =>
      intro outs f fw ho q hq
      cases outs with
      | nil=>unfold FM at ho;exact ho.elim
      | cons cs outs =>
       unfold FM at ho
       obtain ⟨_,_,_,f2',_,_,_,_,rfl,_,h5⟩:=ho
       rcases List.mem_cons.1 hq with rfl | hq
       ·simp
       ·simp [ih _ _ _ h5 q hq]
    exact (z3 _ hz).2 (List.mem_append.2 (.inr (key _ _ _ _ z5 _ (List.mem_map.2 ⟨x,hx,rfl⟩))))) d2 (fun k hk=>by rw [m4];exact (hfree k (by simp [hk])).1) (fun k hk=>hwr k (by simp [hk])) (fun k hk=>by
   obtain ⟨_,q1,q2⟩:=hfree k (by simp [hk])
   refine ⟨fun x cs hx => ?_,fun o I ho hk' => ?_⟩
   ·rw [m5] at hx
    rw [m8 x (hr1.bx x cs hx).1]
    exact q1 x cs hx
   ·rcases m9 o I ho with ⟨q3,q4⟩ | q
    ·exact q2 o I q3 (q4 ▸ hk')
    ·exact d3 k (q k hk') k hk rfl)
 exact hK _ w' ⟨G2,r1.pt dst (r2 _ _ (SK (HN rs _ _ m2 (Dk _ _))))⟩
theorem FV {P:Program} {all rest:List Oper} {st:List It} {dst:Option Tmp} {f:Operand} {args:Array Operand} {tys:Array TypeId} {ty:TypeId} {pos:String} {af:Array Edge} {gd:Option (Nat × Bool)} {s:AS} {Q:QE} {F:FuncId} {cap:List AV} {ps:List PA} {outs:List (List CD)} {rs:List RD} {e b:List Nat}
  (hc:Bc P F ps outs rs) (hf:s.ev f = .fn F cap) (he:ePs s (args.toList.map s.ev++cap) ps=e) (hb:bPs (args.toList.map s.ev++cap) ps=b)
  (hno:((Br rs).all noC && outs.all fun cs=>cs.all noC)=true) (ha:mPs ((s.kl e).kb b) s (args.toList.map s.ev++cap) ps) (hne:e.Nodup) (hnb:b.Nodup)
  (h:SW P (.ops all rest :: st) ((Eh s e b outs rs).pt dst (En s e b rs)) Q) :
  SW P (.ex all ⟨dst,.call ⟨.value f,args,tys⟩,ty,pos,af,gd⟩ rest :: st) s Q:=fun w0 G a w hr =>
 KY hr hc hf he hb (.inl ⟨rfl,hno⟩) ha hne hnb fun a' w' ⟨G',hr'⟩=>h w0 G' a' w' hr'
theorem Bo {P:Program} {all rest:List Oper} {st:List It} {dst:Option Tmp} {f:Operand} {args:Array Operand} {tys:Array TypeId} {ty:TypeId} {pos:String} {af:Array Edge} {gd:Option (Nat × Bool)} {s:AS} {Q:QE} {F:FuncId} {cap:List AV} {ps:List PA} {outs:List (List CD)} {rs:List RD} {e b:List Nat}
  (hc:Bc P F ps outs rs) (hf:s.ev f = .fn F cap) (he:ePs s (args.toList.map s.ev++cap) ps=e) (hb:bPs (args.toList.map s.ev++cap) ps=b)
  (ha:mPs s.em s (args.toList.map s.ev++cap) ps) (hne:e.Nodup) (hnb:b.Nodup)
  (h:SW P (.ops all rest :: st) ((Eh s e b outs rs).pt dst (En s e b rs)) Q) :
  SW P (.ex all ⟨dst,.call ⟨.value f,args,tys⟩,ty,pos,af,gd⟩ rest :: st) s Q:=fun w0 G a w hr =>
 KY hr hc hf he hb (.inr rfl) ha hne hnb fun a' w' ⟨G',hr'⟩=>h w0 G' a' w' hr'
end Go.Proofs.YtaidalilfmjfgaaGreat
