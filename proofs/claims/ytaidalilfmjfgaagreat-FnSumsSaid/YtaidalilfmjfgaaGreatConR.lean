import Derived.Test.YtaidalilfmjfgaaGreatCox
namespace Go.Proofs.YtaidalilfmjfgaaGreat
open Go.RowKit
set_option linter.unusedVariables false
set_option linter.unusedSimpArgs false
def toR:PD→RD
 | .one d => .one (.r d)
 | .ag ds => .ag (ds.map CD.r)
 | _ => .ag []
theorem repB : ∀ {args : List PD} {us : List Value} {w : World} {S : Nat → Prop} {fp fw : List Nat}, RepPAs w S (args.map PA.b) us fp fw → RepXs w S args us ∧ fp = [] ∧ fw = [] ∧ ptrs (args.map PA.b) us = []
  | [], us, w, S, fp, fw, h => by
    rw [List.map_nil] at h
    unfold RepPAs at h
    obtain ⟨rfl, rfl, rfl⟩ := h
    exact ⟨by unfold RepXs; rfl, rfl, rfl, rfl⟩
  | p :: ps, us, w, S, fp, fw, h => by
    rw [List.map_cons] at h
    unfold RepPAs at h
    obtain ⟨v, r, f, g, fw1, fw2, rfl, rfl, rfl, h1, h2⟩ := h
    unfold RepPA at h1
    obtain ⟨h1, rfl, rfl⟩ := h1
    obtain ⟨q1, rfl, rfl, q4⟩ := repB h2
    refine ⟨by unfold RepXs; exact ⟨v, r, rfl, h1, q1⟩, rfl, rfl, ?_⟩
    rw [List.map_cons]
    unfold ptrs ptr
    simpa using q4
theorem ownR_all {w : World} {S : Nat → Prop} : ∀ {ds : List D} {vs : List Value}, RepPs w S ds vs → OwnCs w S (ds.map CD.r) vs [] []
  | [], vs, h => by unfold RepPs at h; rw [List.map_nil]; unfold OwnCs; exact ⟨h, rfl, rfl⟩
  | d :: ds, vs, h => by
    unfold RepPs at h
    obtain ⟨v, r, rfl, h1, h2⟩ := h
    rw [List.map_cons]; unfold OwnCs
    exact ⟨v, r, [], [], [], [], rfl, rfl, rfl, by unfold OwnC; exact ⟨h1, rfl, rfl⟩, ownR_all h2⟩
theorem flat_toR : ∀ {rs : List PD}, okR rs → flatR (rs.map toR) = (flatD rs).map CD.r
  | [], _ => rfl
  | .one d :: rs, h => by
    have : okR rs := h
    simp only [List.map_cons, toR, flatR, flatD, flat_toR this]
  | .ag ds :: rs, h => by
    have : okR rs := h
    simp only [List.map_cons, toR, flatR, flatD, flat_toR this, List.map_append]
theorem pack_toR : ∀ {rs : List PD} {vs : List Value}, okR rs → packR (rs.map toR) vs = packV rs vs
  | [], vs, _ => rfl
  | .one d :: rs, vs, h => by
    have : okR rs := h
    simp only [List.map_cons, toR, packR, packV, pack_toR this]
  | .ag ds :: rs, vs, h => by
    have : okR rs := h
    simp only [List.map_cons, toR, packR, packV, pack_toR this, List.length_map]
theorem conR {P:Program} {f:FuncId} {args rs:List PD} (h:Con P f args rs) (ho:okR rs):ConP P f (args.map PA.b) [] (rs.map toR):=by
 refine ⟨h.1,fun w us fp fw S hg hgb hS hrep hnd => ?_⟩
 obtain ⟨hx,rfl,rfl,hp⟩:=repB hrep
 refine (h.2 w us hg (RepXs.pd (fun k hk=>(hS k hk).1) hx)).mono fun e w' ⟨hb,vs,he,hf⟩ => ?_
 obtain ⟨fp,h1,h2,h3⟩:=hf
 refine ⟨belB hb,fun k=>S k∨(w.heap.size≤k∧k<w'.heap.size),vs,[],[],[],[],⟨fun k hk => .inl hk,fun k hk=>hk.imp id fun h => .inr h.1,fun k hk=>⟨hk.elim (fun h=>Nat.lt_of_lt_of_le (hS k h).1 hb.size) fun h=>h.2,by simp⟩⟩, ?_, ?_, ?_,by simp,by simp,by simp⟩
 ·rw [pack_toR ho];exact he
 ·rw [flat_toR ho]
  exact ownR_all (OwnVs.p _ _ _ h1 fun k hk => .inr ⟨h3 k hk,OwnVs.lt _ _ _ h1 k hk⟩)
 ·rw [hp];unfold OutP;exact ⟨rfl,rfl⟩
end Go.Proofs.YtaidalilfmjfgaaGreat
