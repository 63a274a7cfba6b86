import Derived.Test.YtlbdmpjnmfmnfaaFtT
import Derived.Test.YtlbdmpjnmfmnfaaFs6
import Derived.Test.YtlbdmpjnmfmnfaaFsP
import Derived.Test.YtlbdmpjnmfmnfaaFsQ
import Derived.Test.YtlbdmpjnmfmnfaaHlLg
section
set_option linter.unusedSimpArgs false
set_option linter.unusedVariables false
namespace Go.Proofs.Ytlbdmpjnmfmnfaa
open Go.RowKit Go.HL Go.FS
section
variable {k:Nat->Bool}
end
section
variable {fin:List Bool} {al:List A}
theorem xh {fin:List Bool} {al:List A} (h1:1<=fin.length) (h2:fin.length<=2048) (h3:al.length<=8192) (h4:∀a∈al,0<=a.f/\a.f<fin.length/\0<=a.t/\a.t<fin.length /\ -1<=a.i/\a.i<64 /\ -1<=a.o/\a.o<64):okF fin al=true:=by
 simp only [okF,Bool.and_eq_true,decide_eq_true_eq,List.all_eq_true]
 exact ⟨⟨h1,h2,h3⟩,fun a ha=>okA_iff.2 (h4 a ha)⟩
end
end Go.Proofs.Ytlbdmpjnmfmnfaa
end
section
set_option linter.unusedSimpArgs false
set_option linter.unusedVariables false
namespace Go.FS
def sy (s:Int):List Int:=if s = -1 then [] else [s]
inductive Tr (al:List A):Int->List Int->List Int->Int->Prop
 | nil {p:Int}:Tr al p [] [] p
 | step {a:A} {u v:List Int} {q:Int}:a∈al->Tr al a.t u v q->Tr al a.f (sy a.i++u) (sy a.o++v) q
section
variable {al:List A}
theorem Tr.snoc {p q:Int} {u v:List Int} (h:Tr al p u v q) {a:A} (ha:a∈al) (hq:a.f=q):Tr al p (u++sy a.i) (v++sy a.o) a.t:=by
 induction h with
 | nil =>
  subst hq
  have:=Tr.step ha (Tr.nil (al:=al) (p:=a.t))
  simpa using this
 | step hb _ ih=>rw [List.append_assoc,List.append_assoc];exact .step hb (ih hq)
theorem Tr.append {p q r:Int} {u v u' v':List Int} (h:Tr al p u v q) (h':Tr al q u' v' r):Tr al p (u++u') (v++v') r:=by
 induction h with
 | nil=>exact h'
 | step hb _ ih=>rw [List.append_assoc,List.append_assoc];exact .step hb (ih h')
variable {fin:List Bool} {w:List Int}
theorem Qg {i:Nat} (h:i<w.length):w.take (i+1)=w.take i++[w.getD i 0]:=by
 rw [List.take_add_one];simp [h]
theorem GG {i:Nat} (h:i<w.length):w.drop i=w.getD i 0::w.drop (i+1):=by
 rw [List.drop_eq_getElem_cons h];simp [h]
theorem QE {x y:Nd} {o:Int} (h:Mv al w x o y) {v:List Int} (h0:0<=x.2) (h1:x.2<=w.length) (ht:Tr al 0 (w.take x.2.toNat) v x.1):0<=y.2/\y.2<=w.length/\Tr al 0 (w.take y.2.toNat) (v++sy o) y.1:=by
 cases h with
 | @eps a _ ha hf hi =>
  have:=ht.snoc ha hf
  rw [sy,if_pos hi,List.append_nil] at this
  exact ⟨h0,h1,this⟩
 | @sym a _ ha hf hi h2 h3 h4 =>
  have:=ht.snoc ha hf
  rw [sy,if_neg hi,<- h4,<- Qg (by omega)] at this
  refine ⟨by simp only;omega,by simp only;omega,?_⟩
  have e:(x.2+1).toNat=x.2.toNat+1:=by omega
  simp only
  rw [e];exact this
theorem YT {v:List Int} {y:Nd} (h:At fin al w v y):0<=y.2/\y.2<=w.length/\Tr al 0 (w.take y.2.toNat) v y.1:=by
 induction h with
 | nil _=>exact ⟨by simp,by simp,.nil⟩
 | eps _ hm _ ih =>
  have:=QE hm ih.1 ih.2.1 ih.2.2
  rw [sy,if_pos rfl,List.append_nil] at this
  exact this
 | sym _ hm hs _ ih =>
  have:=QE hm ih.1 ih.2.1 ih.2.2
  rw [sy,if_neg hs] at this
  exact this
theorem A8 {p q:Int} {u v:List Int} (h:Tr al p u v q) (hq:isFin fin q):∀ {i:Int},0<=i->i<=w.length->w.drop i.toNat=u->Good fin al w (p,i):=by
 induction h with
 | nil =>
  intro i h0 h1 hd
  have:i=w.length:=by
   have:=congrArg List.length hd
   rw [List.length_drop] at this
   simp at this;omega
  subst this
  exact .fin hq
 | @step a u v q ha h ih =>
  intro i h0 h1 hd
  by_cases hi:a.i = -1
  ·rw [sy,if_pos hi] at hd
   exact .mv (.eps (x:=(a.f,i)) ha rfl hi) (ih hq h0 h1 hd)
  ·rw [sy,if_neg hi] at hd
   have hl:i.toNat<w.length:=by
    rcases Nat.lt_or_ge i.toNat w.length with h|h
    ·exact h
    ·rw [List.drop_eq_nil_of_le h] at hd;cases hd
   rw [GG hl] at hd
   simp only [List.cons_append,List.nil_append,List.cons.injEq] at hd
   refine .mv (.sym (x:=(a.f,i)) ha rfl hi h0 (by simp only;omega) hd.1) (ih hq (by omega) (by omega) ?_)
   rw [show (i+1).toNat=i.toNat+1 by omega];exact hd.2
theorem Tq {p q:Int} {u v:List Int} (h:Tr al p u v q) (hq:isFin fin q):∀ {i:Int} {v0:List Int},At fin al w v0 (p,i)->0<=i->i<=w.length->w.drop i.toNat=u->Out fin al w (v0++v):=by
 induction h with
 | nil =>
  intro i v0 hA h0 h1 hd
  have:i=w.length:=by
   have:=congrArg List.length hd
   rw [List.length_drop] at this
   simp at this;omega
  subst this
  rw [List.append_nil]
  exact ⟨_,hA,hq⟩
 | @step a u v q ha h ih =>
  intro i v0 hA h0 h1 hd
  have go:∀ {y:Nd},Mv al w (a.f,i) a.o y->Good fin al w y->y.1=a.t->0<=y.2->y.2<=w.length->w.drop y.2.toNat=u->Out fin al w (v0++(sy a.o++v)):=fun {y} hm hg hy h2 h3 h4=>by
   obtain ⟨y1,y2⟩:=y
   simp only at hy h2 h3 h4
   subst hy
   by_cases ho:a.o = -1
   ·rw [sy,if_pos ho,List.nil_append]
    rw [ho] at hm
    exact ih hq (hA.eps hm hg) h2 h3 h4
   ·rw [sy,if_neg ho,<- List.append_assoc]
    exact ih hq (hA.sym hm ho hg) h2 h3 h4
  by_cases hi:a.i = -1
  ·rw [sy,if_pos hi] at hd
   exact go (.eps (x:=(a.f,i)) ha rfl hi) (A8 h hq h0 h1 hd) rfl h0 h1 hd
  ·rw [sy,if_neg hi] at hd
   have hl:i.toNat<w.length:=by
    rcases Nat.lt_or_ge i.toNat w.length with h|h
    ·exact h
    ·rw [List.drop_eq_nil_of_le h] at hd;cases hd
   rw [GG hl] at hd
   simp only [List.cons_append,List.nil_append,List.cons.injEq] at hd
   have h5:w.drop (i+1).toNat=u:=by rw [show (i+1).toNat=i.toNat+1 by omega];exact hd.2
   exact go (.sym (x:=(a.f,i)) ha rfl hi h0 (by simp only;omega) hd.1) (A8 h hq (by omega) (by omega) h5) rfl (by simp only;omega) (by simp only;omega) h5
theorem TW {v:List Int}:Out fin al w v <-> ∃p,Tr al 0 w v p/\isFin fin p:=by
 constructor
 ·rintro ⟨p,h,hf⟩
  have:=(YT h).2.2
  simp only [Int.toNat_natCast,List.take_length] at this
  exact ⟨p,this,hf⟩
 ·rintro ⟨p,h,hf⟩
  have hg:Good fin al w (0,0):=A8 h hf (by omega) (by omega) (by simp)
  have:=Tq h hf (i:=0) (.nil hg) (by omega) (by omega) (by simp)
  simpa using this
end
section
variable {fin fin':List Bool} {al al':List A} {w w':List Int}
end
def inv (a:A):A:=⟨a.f,a.o,a.i,a.t⟩
end Go.FS
end
section
set_option linter.unusedSimpArgs false
set_option linter.unusedVariables false
namespace Go.Proofs.Ytlbdmpjnmfmnfaa
open Go.RowKit Go.HL Go.FS
end Go.Proofs.Ytlbdmpjnmfmnfaa
end
section
set_option linter.unusedSimpArgs false
set_option linter.unusedVariables false
namespace Go.Proofs.Ytlbdmpjnmfmnfaa
set_option linter.unusedSimpArgs false
set_option linter.unnecessarySimpa false
open Go.RowKit Go.HL Go.FS
theorem Va {F G:List Bool} {r:Int}:isFin (F++G) r <-> (isFin F r\/F.length<=r/\isFin G (r - F.length)):=by
 unfold isFin
 simp only [List.getD_eq_getElem?_getD]
 constructor
 ·rintro ⟨h1,h2⟩
  by_cases h:r<F.length
  ·rw [List.getElem?_append_left (by omega)] at h2;exact .inl ⟨h1,h2⟩
  ·rw [List.getElem?_append_right (by omega)] at h2
   refine .inr ⟨by omega,by omega,?_⟩
   rw [show (r - (F.length:Int)).toNat=r.toNat - F.length by omega];exact h2
 ·rintro (⟨h1,h2⟩|⟨h0,h1,h2⟩)
  ·refine ⟨h1,?_⟩
   by_cases h:r.toNat<F.length
   ·rw [List.getElem?_append_left h];exact h2
   ·rw [List.getElem?_eq_none (by omega)] at h2;cases h2
  ·refine ⟨by omega,?_⟩
   rw [List.getElem?_append_right (by omega),show r.toNat - F.length=(r - (F.length:Int)).toNat by omega];exact h2
theorem oN {F:List Bool} {r:Int} (h:isFin F r):0<=r/\r<F.length:=by
 obtain ⟨h1,h2⟩:=h
 refine ⟨h1,?_⟩
 by_cases h:r.toNat<F.length
 ·omega
 ·rw [List.getD_eq_getElem?_getD,List.getElem?_eq_none (by omega)] at h2;cases h2
theorem JL {F:List Bool} {i:Int}:i∈ng F F.length <-> isFin F i:=by
 unfold ng
 simp only [List.mem_map,List.mem_filter,List.mem_range]
 constructor
 ·rintro ⟨j,⟨h1,h2⟩,rfl⟩;exact ⟨by omega,by simpa using h2⟩
 ·intro h
  have:=oN h
  exact ⟨i.toNat,⟨by omega,h.2⟩,by omega⟩
section
variable {p q:Tn}
theorem Zt (h:zX [p,q]=true):okF (Ed p q).1 (Ed p q).2=true/\(Ed p q).1.length=1+p.1.length+q.1.length/\(Ed p q).2.length=2+p.2.length+q.2.length:=by
 obtain ⟨hp,hq,h1,h2⟩:=Qe h
 obtain ⟨a1,a2,a3⟩:=gm hp
 obtain ⟨b1,b2,b3⟩:=gm hq
 have e:Ed p q=([false]++(p.1++q.1),[jm 0 1,jm 0 (1+p.1.length)]++p.2.map (nX 1)++q.2.map (nX (1+p.1.length))):=by unfold Ed;rw [if_pos h]
 rw [e]
 refine ⟨xh (by simp) (by simp;omega) (by simp;omega) fun a ha=>?_,by simp;omega,by simp;omega⟩
 simp only [List.length_append,List.length_cons,List.length_nil,List.mem_append,List.mem_cons,List.not_mem_nil,or_false,List.mem_map] at ha ⊢
 rcases ha with ((rfl|rfl)|⟨b,hb,rfl⟩)|⟨b,hb,rfl⟩
 ·simp only [jm];omega
 ·simp only [jm];omega
 ·have:=fD hp hb;simp only [nX];omega
 ·have:=fD hq hb;simp only [nX];omega
theorem then_ok (h:zX [p,q]=true):okF (lU p q).1 (lU p q).2=true/\(lU p q).1.length=p.1.length+q.1.length/\(lU p q).2.length<=p.2.length+q.2.length+p.1.length:=by
 obtain ⟨hp,hq,h1,h2⟩:=Qe h
 obtain ⟨a1,a2,a3⟩:=gm hp
 obtain ⟨b1,b2,b3⟩:=gm hq
 have e:lU p q=(List.replicate p.1.length false++q.1,p.2.map (nX 0)++q.2.map (nX p.1.length)++(ng p.1 p.1.length).map fun i=>jm i p.1.length):=by unfold lU;rw [if_pos h]
 rw [e]
 have hfl:=uI p.1 p.1.length
 refine ⟨xh (by simp;omega) (by simp;omega) (by simp;omega) fun a ha=>?_,by simp,by simp;omega⟩
 simp only [List.length_append,List.length_replicate,List.mem_append,List.mem_map,JL] at ha ⊢
 rcases ha with (⟨b,hb,rfl⟩|⟨b,hb,rfl⟩)|⟨i,hi,rfl⟩
 ·have:=fD hp hb;simp only [nX];omega
 ·have:=fD hq hb;simp only [nX];omega
 ·have:=oN hi;simp only [jm];omega
inductive Rep (R:List Int->List Int->Prop):List Int->List Int->Prop
 | nil:Rep R [] []
 | step {u v u' v':List Int}:R u v->Rep R u' v'->Rep R (u++u') (v++v')
theorem Rep.append {R:List Int->List Int->Prop} {u v u' v':List Int} (h:Rep R u v) (h':Rep R u' v'):Rep R (u++u') (v++v'):=by
 induction h with
 | nil=>exact h'
 | step h1 _ ih=>rw [List.append_assoc,List.append_assoc];exact .step h1 ih
end
section
variable {fin:List Bool} {al:List A}
end
end Go.Proofs.Ytlbdmpjnmfmnfaa
end
