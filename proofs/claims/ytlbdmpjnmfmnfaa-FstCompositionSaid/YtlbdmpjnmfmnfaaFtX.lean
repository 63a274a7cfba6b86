import Derived.Test.YtlbdmpjnmfmnfaaFsP
set_option linter.unusedSimpArgs false
set_option linter.unusedVariables false
namespace Go.FS
def sy (s:Int):List Int:=if s = -1 then [] else [s]
inductive Tr (al:List A):Int->List Int->List Int->Int->Prop
 | nil {p:Int}:Tr al p [] [] p
 | step {a:A} {u v:List Int} {q:Int}:a∈al->Tr al a.t u v q->Tr al a.f (sy a.i++u) (sy a.o++v) q
section
variable {al:List A}
theorem Tr.snoc {p q:Int} {u v:List Int} (h:Tr al p u v q) {a:A} (ha:a∈al) (hq:a.f=q):Tr al p (u++sy a.i) (v++sy a.o) a.t:=by
 induction h with
 | nil =>
  subst hq
  have:=Tr.step ha (Tr.nil (al:=al) (p:=a.t))
  simpa using this
 | step hb _ ih=>rw [List.append_assoc,List.append_assoc];exact .step hb (ih hq)
theorem Tr.append {p q r:Int} {u v u' v':List Int} (h:Tr al p u v q) (h':Tr al q u' v' r):Tr al p (u++u') (v++v') r:=by
 induction h with
 | nil=>exact h'
 | step hb _ ih=>rw [List.append_assoc,List.append_assoc];exact .step hb (ih h')
variable {fin:List Bool} {w:List Int}
theorem L6 {i:Nat} (h:i<w.length):w.take (i+1)=w.take i++[w.getD i 0]:=by
 rw [List.take_add_one];simp [h]
theorem vC {i:Nat} (h:i<w.length):w.drop i=w.getD i 0::w.drop (i+1):=by
 rw [List.drop_eq_getElem_cons h];simp [h]
theorem O9 {x y:Nd} {o:Int} (h:Mv al w x o y) {v:List Int} (h0:0<=x.2) (h1:x.2<=w.length) (ht:Tr al 0 (w.take x.2.toNat) v x.1):0<=y.2/\y.2<=w.length/\Tr al 0 (w.take y.2.toNat) (v++sy o) y.1:=by
 cases h with
 | @eps a _ ha hf hi =>
  have:=ht.snoc ha hf
  rw [sy,if_pos hi,List.append_nil] at this
  exact ⟨h0,h1,this⟩
 | @sym a _ ha hf hi h2 h3 h4 =>
  have:=ht.snoc ha hf
  rw [sy,if_neg hi,<- h4,<- L6 (by omega)] at this
  refine ⟨by simp only;omega,by simp only;omega,?_⟩
  have e:(x.2+1).toNat=x.2.toNat+1:=by omega
  simp only
  rw [e];exact this
theorem X0 {v:List Int} {y:Nd} (h:At fin al w v y):0<=y.2/\y.2<=w.length/\Tr al 0 (w.take y.2.toNat) v y.1:=by
 induction h with
 | nil _=>exact ⟨by simp,by simp,.nil⟩
 | eps _ hm _ ih =>
  have:=O9 hm ih.1 ih.2.1 ih.2.2
  rw [sy,if_pos rfl,List.append_nil] at this
  exact this
 | sym _ hm hs _ ih =>
  have:=O9 hm ih.1 ih.2.1 ih.2.2
  rw [sy,if_neg hs] at this
  exact this
theorem zA {p q:Int} {u v:List Int} (h:Tr al p u v q) (hq:isFin fin q):∀ {i:Int},0<=i->i<=w.length->w.drop i.toNat=u->Good fin al w (p,i):=by
 induction h with
 | nil =>
  intro i h0 h1 hd
  have:i=w.length:=by
   have:=congrArg List.length hd
   rw [List.length_drop] at this
   simp at this;omega
  subst this
  exact .fin hq
 | @step a u v q ha h ih =>
  intro i h0 h1 hd
  by_cases hi:a.i = -1
  ·rw [sy,if_pos hi] at hd
   exact .mv (.eps (x:=(a.f,i)) ha rfl hi) (ih hq h0 h1 hd)
  ·rw [sy,if_neg hi] at hd
   have hl:i.toNat<w.length:=by
    rcases Nat.lt_or_ge i.toNat w.length with h|h
    ·exact h
    ·rw [List.drop_eq_nil_of_le h] at hd;cases hd
   rw [vC hl] at hd
   simp only [List.cons_append,List.nil_append,List.cons.injEq] at hd
   refine .mv (.sym (x:=(a.f,i)) ha rfl hi h0 (by simp only;omega) hd.1) (ih hq (by omega) (by omega) ?_)
   rw [show (i+1).toNat=i.toNat+1 by omega];exact hd.2
theorem Px {p q:Int} {u v:List Int} (h:Tr al p u v q) (hq:isFin fin q):∀ {i:Int} {v0:List Int},At fin al w v0 (p,i)->0<=i->i<=w.length->w.drop i.toNat=u->Out fin al w (v0++v):=by
 induction h with
 | nil =>
  intro i v0 hA h0 h1 hd
  have:i=w.length:=by
   have:=congrArg List.length hd
   rw [List.length_drop] at this
   simp at this;omega
  subst this
  rw [List.append_nil]
  exact ⟨_,hA,hq⟩
 | @step a u v q ha h ih =>
  intro i v0 hA h0 h1 hd
  have go:∀ {y:Nd},Mv al w (a.f,i) a.o y->Good fin al w y->y.1=a.t->0<=y.2->y.2<=w.length->w.drop y.2.toNat=u->Out fin al w (v0++(sy a.o++v)):=fun {y} hm hg hy h2 h3 h4=>by
   obtain ⟨y1,y2⟩:=y
   simp only at hy h2 h3 h4
   subst hy
   by_cases ho:a.o = -1
   ·rw [sy,if_pos ho,List.nil_append]
    rw [ho] at hm
    exact ih hq (hA.eps hm hg) h2 h3 h4
   ·rw [sy,if_neg ho,<- List.append_assoc]
    exact ih hq (hA.sym hm ho hg) h2 h3 h4
  by_cases hi:a.i = -1
  ·rw [sy,if_pos hi] at hd
   exact go (.eps (x:=(a.f,i)) ha rfl hi) (zA h hq h0 h1 hd) rfl h0 h1 hd
  ·rw [sy,if_neg hi] at hd
   have hl:i.toNat<w.length:=by
    rcases Nat.lt_or_ge i.toNat w.length with h|h
    ·exact h
    ·rw [List.drop_eq_nil_of_le h] at hd;cases hd
   rw [vC hl] at hd
   simp only [List.cons_append,List.nil_append,List.cons.injEq] at hd
   have h5:w.drop (i+1).toNat=u:=by rw [show (i+1).toNat=i.toNat+1 by omega];exact hd.2
   exact go (.sym (x:=(a.f,i)) ha rfl hi h0 (by simp only;omega) hd.1) (zA h hq (by omega) (by omega) h5) rfl (by simp only;omega) (by simp only;omega) h5
theorem Q8 {v:List Int}:Out fin al w v <-> ∃p,Tr al 0 w v p/\isFin fin p:=by
 constructor
 ·rintro ⟨p,h,hf⟩
  have:=(X0 h).2.2
  simp only [Int.toNat_natCast,List.take_length] at this
  exact ⟨p,this,hf⟩
 ·rintro ⟨p,h,hf⟩
  have hg:Good fin al w (0,0):=zA h hf (by omega) (by omega) (by simp)
  have:=Px h hf (i:=0) (.nil hg) (by omega) (by omega) (by simp)
  simpa using this
end
section
variable {fin fin':List Bool} {al al':List A} {w w':List Int}
theorem QL (hk:qH al) {L:List (List Int)} (h:∀v,Out fin al w v->v∈L):∃n,kM fin al w n=[]:=by
 obtain ⟨m,hm⟩:∃m,∀v∈L,v.length<m:=by
  clear h
  induction L with
  | nil=>exact ⟨0,by simp⟩
  | cons v L ih =>
   obtain ⟨m,hm⟩:=ih
   refine ⟨max m (v.length+1),fun u hu=>?_⟩
   rcases List.mem_cons.1 hu with rfl|hu
   ·omega
   ·have:=hm u hu;omega
 refine ⟨m,?_⟩
 apply List.eq_nil_iff_forall_not_mem.2
 intro v hv
 obtain ⟨hb,hl⟩:=(ig hk).1 hv
 obtain ⟨u,hu⟩:=hb.out
 have:=hm _ (h _ hu)
 rw [List.length_append] at this
 omega
end
def inv (a:A):A:=⟨a.f,a.o,a.i,a.t⟩
end Go.FS
