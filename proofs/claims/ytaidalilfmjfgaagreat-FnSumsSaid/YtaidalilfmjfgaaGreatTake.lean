import Derived.Test.YtaidalilfmjfgaaGreatAI17
namespace Go.Proofs.YtaidalilfmjfgaaGreat
open Go.RowKit
set_option linter.unusedVariables false
set_option linter.unusedSimpArgs false
def dead:D→D
 | .rows _ _ _ => .any
 | d=>d
theorem OwnV.dead' {w:World} {d:D} {v:Value} {f:List Nat} (h:OwnV w d v f):OwnV w (dead d) v []:=by
 have h1:=h.one
 cases d <;> unfold dead <;> unfold OwnV at h ⊢ <;> first | exact ⟨h.1,rfl⟩ | exact ⟨h1,rfl⟩
theorem OwnVs.dead' {w : World} : ∀ {ds : List D} {us : List Value} {f : List Nat}, OwnVs w ds us f → OwnVs w (ds.map dead) us []
  | [], us, f, h => by unfold OwnVs at h; rw [List.map_nil]; unfold OwnVs; exact ⟨h.1, rfl⟩
  | d :: ds, us, f, h => by
    unfold OwnVs at h
    obtain ⟨v, r, f1, f2, e1, e2, h1, h2⟩ := h
    rw [List.map_cons]
    unfold OwnVs
    exact ⟨v, r, [], [], e1, rfl, h1.dead', OwnVs.dead' h2⟩
theorem OwnVs.split' {w : World} : ∀ (a : List D) (u : List Value) (b : List D) (v : List Value) (fp : List Nat), u.length = a.length → OwnVs w (a ++ b) (u ++ v) fp → ∃ f1 f2, fp = f1 ++ f2 ∧ OwnVs w a u f1 ∧ OwnVs w b v f2
  | [], [], b, v, fp, _, h => ⟨[], fp, rfl, by unfold OwnVs; exact ⟨rfl, rfl⟩, h⟩
  | d :: a, x :: u, b, v, fp, hl, h => by
    rw [List.cons_append, List.cons_append] at h
    unfold OwnVs at h
    obtain ⟨y, r, f1, f2, e, rfl, h1, h2⟩ := h
    injection e with e1 e2
    subst e1
    subst e2
    obtain ⟨f3, f4, rfl, h3, h4⟩ := OwnVs.split' a u b v f2 (by simpa using hl) h2
    refine ⟨f1 ++ f3, f4, by rw [List.append_assoc], ?_, h4⟩
    unfold OwnVs
    exact ⟨_, _, f1, f3, rfl, rfl, h1, h3⟩
theorem setRowG_mid {α : Type} : ∀ (d b a c : List α), b.length = d.length → setRowG (a ++ (b ++ c)) a.length d = a ++ (d ++ c)
  | [], b, a, c, h => by
    have : b = [] := List.eq_nil_of_length_eq_zero (by simpa using h)
    subst this; rfl
  | x :: d, [], a, c, h => by simp at h
  | x :: d, y :: b, a, c, h => by
    have e : (a ++ (y :: b ++ c)).set a.length x = (a ++ [x]) ++ (b ++ c) := by
      rw [List.set_append_right _ _ (Nat.le_refl _)]
      simp
    have e2 : a.length + 1 = (a ++ [x]).length := by simp
    rw [setRowG, e, e2, setRowG_mid d b (a ++ [x]) c (by simpa using h)]
    simp
theorem row_mid {α:Type} {sz n k:Nat} {cs:List α} (h:cs.length=n * sz) (hk:k<n):cs=cs.take (k * sz)++(rowAt sz cs k++cs.drop (k * sz+sz))∧(cs.take (k * sz)).length=k * sz:=by
 have h2:(k+1) * sz≤n * sz:=Nat.mul_le_mul_right _ hk
 rw [Nat.succ_mul] at h2
 refine ⟨?_,by rw [List.length_take];omega⟩
 conv=>lhs;rw [← List.take_append_drop (k * sz) cs]
 congr 1
 unfold rowAt
 conv=>lhs;rw [← List.take_append_drop sz (cs.drop (k * sz))]
 rw [List.drop_drop]
def takeC (sz k:Nat) (cs:List D):List D:=setRowG cs (k * sz) ((rowAt sz cs k).map dead)
def takeP (s:AS) (o sz n k:Nat) (cs:List D) (T:TypeId):List AV × AS:=mkR (s.setO o ⟨.rows sz n (takeC sz k cs),some T,true⟩) (rowAt sz cs k)
theorem take_ok {w0 : World0} {G : Gh} {s : AS} {a : Act} {w : World} (h : Rel w0 G s a w) {o sz n k : Nat} {cs : List D} {T : TypeId} (hI : s.owf o = some ⟨.rows sz n cs, some T, true⟩) (hk : k < n) :
    ∃ us G', Rel w0 G' (takeP s o sz n k cs T).2 a w ∧ RVs G' w (takeP s o sz n k cs T).2.owf (takeP s o sz n k cs T).2.nx (takeP s o sz n k cs T).1 us ∧ us.length = sz ∧
      ∃ g off cap, G.root o = .slice (some ⟨g, off, none⟩) n cap ∧ g < w.heap.size ∧ Cells w g (off + k * sz) us := by
  obtain ⟨hlt, ⟨hB, hrep, hdp, hap⟩, hbx⟩ := h.own o _ hI
  obtain ⟨sz', n', cs', vs, e1, h1, h2, h3, h4, h5⟩ := hap T rfl
  simp only [D.rows.injEq] at e1
  obtain ⟨rfl, rfl, rfl⟩ := e1
  obtain ⟨fp, h6, h7, h8⟩ := h5 rfl
  have hcl : cs.length = n * sz := by rw [← h2.len, h1.1]
  obtain ⟨ec, el⟩ := row_mid hcl hk
  obtain ⟨ev, evl⟩ := row_mid h1.1 hk
  have h6' := h6
  rw [ec, ev] at h6'
  obtain ⟨f1, f23, rfl, o1, o23⟩ := OwnVs.split' _ _ _ _ _ (by rw [el, evl]) h6'
  have hrl : (rowAt sz cs k).length = sz := rowAt_len _ _ _ _ hcl hk
  have hvl : (rowAt sz vs k).length = sz := rowAt_len _ _ _ _ h1.1 hk
  obtain ⟨f2, f3, rfl, o2, o3⟩ := OwnVs.split' _ _ _ _ _ (by rw [hrl, hvl]) o23
  have hcs' : takeC sz k cs = cs.take (k * sz) ++ ((rowAt sz cs k).map dead ++ cs.drop (k * sz + sz)) := by
    have := setRowG_mid ((rowAt sz cs k).map dead) (rowAt sz cs k) (cs.take (k * sz)) (cs.drop (k * sz + sz)) (by simp)
    rw [← ec, el] at this
    exact this
  have hown : OwnVs w (takeC sz k cs) vs (f1 ++ f3) := by
    rw [hcs', ev]
    have := OwnVs.append _ _ _ _ _ _ o1 (OwnVs.append _ _ _ _ _ _ o2.dead' o3)
    simpa using this
  obtain ⟨n1, n2, n3⟩ := List.nodup_append.1 h7
  obtain ⟨n4, n5, n6⟩ := List.nodup_append.1 n2
  have hn13 : (f1 ++ f3).Nodup := List.nodup_append.2 ⟨n1, n5, fun x hx y hy e => n3 x hx y (by simp [hy]) e⟩
  have hsub : ∀ j ∈ f1 ++ f3, j ∈ f1 ++ (f2 ++ f3) := fun j hj => by
    rcases List.mem_append.1 hj with hj | hj <;> simp [hj]
  have hrn : (rowR (G.root o)).Nodup := by
    obtain ⟨a2, cap2, ev2, _⟩ := row_shape h1
    rw [ev2]
    cases a2 with
    | none => simp [rowR]
    | some ad => cases cap2 <;> simp [rowR]
  have hnB : (rowR (G.root o) ++ (f1 ++ f3)).Nodup := List.nodup_append.2 ⟨hrn, hn13, fun x hx y hy e => (h8 y (hsub y hy)).2 (e ▸ hx)⟩
  have hBsub : ∀ j ∈ rowR (G.root o) ++ (f1 ++ f3), j ∈ G.B o := fun j hj => by
    rcases List.mem_append.1 hj with hj | hj
    · exact (h3 j hj).1
    · exact (h8 j (hsub j hj)).1
  have hrow := row_own h1 hown
  have hR : Res w0 G.Z w (rowR (G.root o) ++ (f1 ++ f3)) (G.root o) ⟨.rows sz n (takeC sz k cs), some T, true⟩ := by
    refine ⟨fun j hj => hB j (hBsub j hj), OwnV.p _ _ _ hrow (fun j hj => .inr hj), fun _ => ⟨hrow, hnB⟩, fun T' hT => ?_⟩
    injection hT with hT
    subst hT
    exact ⟨sz, n, _, vs, rfl, h1, OwnVs.p _ _ _ hown (fun j hj => .inr ⟨by simp only [List.mem_append] at hj ⊢; exact .inr hj, (h8 j (hsub j hj)).2⟩), fun j hj => ⟨List.mem_append.2 (.inl hj), (h3 j hj).2⟩, h4, fun _ => ⟨_, hown, hn13, fun j hj => ⟨List.mem_append.2 (.inr hj), (h8 j (hsub j hj)).2⟩⟩⟩
  have hS := h.setO hI hR hBsub ⟨sz, n, cs, _, rfl, rfl⟩ (Only.refl _ _) h3
  have hf2 : ∀ j ∈ f2, j ∈ G.B o ∧ j ∉ rowR (G.root o) := fun j hj => h8 j (by simp [hj])
  obtain ⟨G', h9, h10, _, _⟩ := mkR_ok (rowAt sz cs k) (rowAt sz vs k) f2 _ _ hS o2 n4 (fun j hj => (hB j (hf2 j hj).1).1) (fun j hj => by
    refine ⟨fun b cs2 hb e => ?_, fun q J hq hj2 => ?_⟩
    · obtain ⟨x', hx, _⟩ := unspB_look hb
      exact hbx b x' hx (by rw [e]; exact (hf2 j hj).1)
    · unfold AS.setO AS.owf at hq
      simp only [look_cons] at hq
      split at hq
      · rename_i e
        subst e
        simp only [upd_eq] at hj2
        rcases List.mem_append.1 hj2 with hj2 | hj2
        · exact (hf2 j hj).2 hj2
        · rcases List.mem_append.1 hj2 with hj2 | hj2
          · exact n3 j hj2 j (by simp [hj]) rfl
          · exact n6 j hj j hj2 rfl
      · rename_i e
        simp only [upd_ne _ _ e] at hj2
        exact h.dis q o J _ hq hI e j hj2 (hf2 j hj).1)
  refine ⟨rowAt sz vs k, G', h9, h10, hvl, ?_⟩
  have hrp : RepP w (fun j => G.Z j ∨ j ∈ G.B o) (.rows sz n cs) (G.root o) := hrep
  obtain ⟨a2, cap2, ev2, _⟩ := row_shape h1
  rw [ev2] at hrp
  rcases h1.2 with ⟨_, _, e0⟩ | ⟨g, o2, cap, cur, e3, e4, e5, e6, e7, e8⟩
  · omega
  · refine ⟨g, o2, cap + 1, e3, (Array.getElem?_eq_some_iff.1 e4).1, ?_⟩
    have hc : Cells w g o2 vs := by
      intro i hi
      have hi2 : i < n * sz := by rw [← h1.1]; exact hi
      have hle : n * sz ≤ (cap + 1) * sz := Nat.mul_le_mul_right _ e5
      have hlt2 : o2 + i < cur.size := by omega
      have : vs[i] = cur[o2 + i] := by
        have h' : vs[i]? = cur.toList[o2 + i]? := by
          rw [← e8, List.getElem?_take_of_lt hi2, List.getElem?_drop]
        rw [List.getElem?_eq_getElem hi, List.getElem?_eq_getElem (by simpa using hlt2)] at h'
        injection h'
      rw [this]
      unfold World.cell?
      simp only [e4]
      simp [hlt2]
    exact hc.row sz k
theorem wp_op {P:Program} {o:Oper} {a:Act} {w:World} {K:Act→World→Prop} {Q:Exit→Act→World→Prop} {v:Value} (h:(execOp a.eval o).run P w = .ok (.value v) w) (hk:K (a.put o.dst v) w):o.wp P a w K Q:=by
 unfold Oper.wp
 rw [h]
 exact hk
theorem sw_take {P:Program} {all rest:List Oper} {st:List It} {dst:Option Tmp} {t:TypeId} {x:Operand} {ty:TypeId} {pos:String} {af:Array Edge} {gd:Option (Nat × Bool)} {s:AS} {Q:QE} (o k:Nat) {sz n:Nat} {cs:List D} {T:TypeId}
  (hx:s.ev x = .eo o k 0) (hI:s.owf o=some ⟨.rows sz n cs,some T,true⟩) (ht:tAgg P t=some (some sz)) (hk:k<n)
  (h:SW P (.ops all rest :: st) ((takeP s o sz n k cs T).2.pt dst (.ag (takeP s o sz n k cs T).1)) Q):SW P (.ex all ⟨dst,.load t x,ty,pos,af,gd⟩ rest :: st) s Q:=fun w0 G a w hr=>by
 obtain ⟨us,G',h1,h2,h3,g,off,cap,h4,h5,h6⟩:=take_ok hr hI hk
 have hv:=hr.ev x
 rw [hx] at hv
 unfold RV at hv
 obtain ⟨_,_,hv⟩:=hv
 obtain ⟨sz2,n2,cs2,a',o0,len,cap2,e1,e2,e3,_⟩:=hv _ hI
 simp only [D.rows.injEq] at e1
 obtain ⟨rfl,rfl,rfl⟩:=e1
 rw [h4] at e2
 injection e2 with e2 _ _
 injection e2 with e2
 injection e2 with e4 e5
 subst e4 e5
 show (Oper.mk dst (.load t x) ty pos af gd).wp P a w _ _
 refine wp_op (v:=.agg us.toArray) ?_ (h w0 G' _ w (h1.pt dst (by unfold RV;exact ⟨us,rfl,h2⟩)))
 simp only [execOp,e3,Nat.add_zero]
 have:=loadAt_run (P:=P) (w:=w) ht (b:=g) (o:=off+k * sz) (vs:=us) (fun j hj=>h6 j hj) (.agg us.toArray) ⟨h3,rfl⟩
 simp only [Sem.run_bind,this,Result.andThen_ok,Sem.run_pure]
def xStep (P:Program):Nat→List Oper→List Oper→List It→AS→QE→Prop
 | 0,all,rest,st,s,Q=>SW P (.ops all rest :: st) s Q
 | k+1,all,o :: rest,st,s,Q=>(gN o=true∧isPick o.op=false)∧(vE P s o.op).1.1∧xStep P k all rest st ((vE P s o.op).2.pt o.dst (vE P s o.op).1.2) Q
 | _+1,_,[],_,_,_=>False
theorem sw_step {P:Program}:∀ (k:Nat) (all rest:List Oper) (st:List It) (s:AS) (Q:QE),xStep P k all rest st s Q→SW P (.ops all rest :: st) s Q
 | 0,all,rest,st,s,Q,h=>h
 | k+1,all,[],st,s,Q,h=>h.elim
 | k+1,all,o :: rest,st,s,Q,h=>xops_ex h.1.1 (xex_of (vE_x h.2.1 (sw_step k all rest st _ Q h.2.2)))
theorem sw_ex {P:Program} {all rest:List Oper} {o:Oper} {st:List It} {s:AS} {Q:QE} (hg:gN o=true) (h:SW P (.ex all o rest :: st) s Q):SW P (.ops all (o :: rest) :: st) s Q:=xops_ex hg h
theorem XW_seq' {P:Program} {a b:Code} {st:List It} {s:AS} {Q:QE} (h:SW P (.code a :: .code b :: st) s Q):SW P (.code (.seq a b) :: st) s Q:=by
 intro w0 G c w hr
 refine wp_seq (wp_mono (h w0 G c w hr) fun e a' w' ⟨G',s',hr',hq⟩ => ?_)
 cases e <;> first | exact hq w0 G' a' w' hr' | exact ⟨G',s',hr',hq⟩
theorem XW_blk' {P:Program} {id:Nat} {x:Code} {st:List It} {s:AS} {Q:QE} (h:SW P (.code x :: .blk id :: st) s Q):SW P (.code (.block id x) :: st) s Q:=by
 intro w0 G c w hr
 refine wp_block (wp_mono (h w0 G c w hr) fun e a' w' ⟨G',s',hr',hq⟩ => ?_)
 cases e
 case exit id2 _x =>
  have hq':if id2=id then (SWb P st Q).2 s' else SXe (SWb P st Q).1 Q (.exit id2) s':=hq
  unfold Exit.inBlock
  by_cases hid:id2=id
  ·simp only [hid,if_true] at hq' ⊢; exact ⟨G',s',hr',hq'⟩
  ·simp only [hid,if_false] at hq' ⊢; exact ⟨G',s',hr',hq'⟩
 all_goals exact ⟨G',s',hr',hq⟩
theorem XW_skip' {P:Program} {st:List It} {s:AS} {Q:QE} (h:SW P st s Q):SW P (.code .skip :: st) s Q:=fun w0 G c w hr=>wp_skip ⟨G,s,hr,h⟩
theorem XW_reg' {P:Program} {id:Nat} {ops:Array Oper} {st:List It} {s:AS} {Q:QE} (h:SW P (.ops ops.toList ops.toList :: st) s Q):SW P (.code (.region id ops false) :: st) s Q:=fun w0 G a w hr=>wp_region_list (h w0 G a w hr)
def xHead (P:Program):Nat→List It→AS→QE→Prop
 | n+1,.code (.seq a b) :: st,s,Q=>xHead P n (.code a :: .code b :: st) s Q
 | n+1,.code (.block id c) :: st,s,Q=>xHead P n (.code c :: .blk id :: st) s Q
 | n+1,.blk _ :: st,s,Q=>xHead P n st s Q
 | n+1,.code .skip :: st,s,Q=>xHead P n st s Q
 | _+1,.code (.region id ops d) :: st,s,Q=>d=false∧SW P (.ops ops.toList ops.toList :: st) s Q
 | _,_,_,_=>False
theorem sw_head {P : Program} : ∀ (n : Nat) (st : List It) (s : AS) (Q : QE), xHead P n st s Q → SW P st s Q
  | 0, st, s, Q, h => by unfold xHead at h; exact h.elim
  | n + 1, .code (.seq a b) :: st, s, Q, h => XW_seq' (sw_head n (.code a :: .code b :: st) s Q h)
  | n + 1, .code (.block id c) :: st, s, Q, h => XW_blk' (sw_head n (.code c :: .blk id :: st) s Q h)
  | n + 1, .blk i :: st, s, Q, h => sw_head n st s Q h
  | n + 1, .code .skip :: st, s, Q, h => XW_skip' (sw_head n st s Q h)
  | n + 1, .code (.region id ops d) :: st, s, Q, h => by
    have h' : d = false ∧ SW P (.ops ops.toList ops.toList :: st) s Q := h
    obtain ⟨rfl, h'⟩ := h'
    exact XW_reg' h'
  | n + 1, [], s, Q, h => by unfold xHead at h; exact h.elim
  | n + 1, .ops _ _ :: _, s, Q, h => by unfold xHead at h; exact h.elim
  | n + 1, .ex _ _ _ :: _, s, Q, h => by unfold xHead at h; exact h.elim
  | n + 1, .dr _ _ :: _, s, Q, h => by unfold xHead at h; exact h.elim
  | n + 1, .dx _ _ _ _ :: _, s, Q, h => by unfold xHead at h; exact h.elim
  | n + 1, .dg _ _ _ _ :: _, s, Q, h => by unfold xHead at h; exact h.elim
  | n + 1, .cut :: _, s, Q, h => by unfold xHead at h; exact h.elim
  | n + 1, .code .ret :: _, s, Q, h => by unfold xHead at h; exact h.elim
  | n + 1, .code (.cond _ _ _) :: _, s, Q, h => by unfold xHead at h; exact h.elim
  | n + 1, .code (.exit _) :: _, s, Q, h => by unfold xHead at h; exact h.elim
  | n + 1, .code (.loop _) :: _, s, Q, h => by unfold xHead at h; exact h.elim
  | n + 1, .code (.rangeFunc _ _ _ _) :: _, s, Q, h => by unfold xHead at h; exact h.elim
  | n + 1, .code (.scope _) :: _, s, Q, h => by unfold xHead at h; exact h.elim
  | n + 1, .code (.label _) :: _, s, Q, h => by unfold xHead at h; exact h.elim
  | n + 1, .code (.goto _) :: _, s, Q, h => by unfold xHead at h; exact h.elim
  | n + 1, .code (.refuse _) :: _, s, Q, h => by unfold xHead at h; exact h.elim
theorem sw_tail {P:Program} {A:Code} {st1 st2:List It} {s:AS} {Q:QE} (h1:(SWb P st1 Q).1=(SWb P st2 Q).1) (h2:∀ s,SW P st1 s Q→SW P st2 s Q) (h:SW P (.code A :: st1) s Q):SW P (.code A :: st2) s Q:=by
 refine XW.mono (Q:=SX (SWb P st1 Q).2 (SWb P st1 Q).1 Q) h fun e s' hq => ?_
 cases e
 case normal=>exact h2 s' hq
 all_goals
  have hq':SXe (SWb P st1 Q).1 Q _ s':=hq
  rw [h1] at hq'
  exact hq'
theorem sw_stop {P:Program} {A B C:Code} {st:List It} {s:AS} {Q:QE} (h:SW P (.code A :: .code B :: .cut :: .code C :: st) s Q):SW P (.code (.seq A (.seq B C)) :: st) s Q :=
 XW_seq' (sw_tail (st1:=.code B :: .cut :: .code C :: st) (st2:=.code (.seq B C) :: st) rfl (fun _ h=>XW_seq' h) h)
theorem sw_uncut {P:Program} {st:List It} {s:AS} {Q:QE} (h:SW P st s Q):SW P (.cut :: st) s Q:=h
end Go.Proofs.YtaidalilfmjfgaaGreat
