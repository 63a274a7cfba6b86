import Derived.Test.YtlbdmpjnmfmnfaaMnC
import Derived.Test.YtlbdmpjnmfmnfaaHlW
import Derived.Test.YtlbdmpjnmfmnfaaFsP
set_option linter.unusedSimpArgs false
set_option linter.unusedVariables false
set_option maxHeartbeats 4000000
section
namespace Go.Proofs.Ytlbdmpjnmfmnfaa
open Go.RowKit Go.HL Go.FS Go.MN
def gf (c:Nat->Nat) (n:Nat):Nat->Nat->Nat
 | 0=>fun _=>0
 | t+1=>fun k=>if c (n - 1 - t)=k then n - 1 - t else gf c n t k
theorem JW {c:Nat->Nat} {n:Nat}:∀ {t j:Nat},t<=n->n - t<=j->j<n->gf c n t (c j)<n/\c (gf c n t (c j))=c j
 | 0,j,_,h1,h2=>by omega
 | t+1,j,ht,h1,h2=>by
  simp only [gf]
  split
  ·rename_i e;exact ⟨by omega,e⟩
  ·rename_i e
   have:j≠n - 1 - t:=fun q=>e (by rw [q])
   exact JW (by omega) (by omega) h2
theorem VB {c:Nat->Nat} {n:Nat} (hn:0<n):∀ (t k:Nat),gf c n t k<n
 | 0,_=>hn
 | t+1,k=>by
  simp only [gf]
  split
  ·omega
  ·exact VB hn t k
theorem ab3 {c:Nat->Nat} {n t:Nat} (h:t<n) (hc:c (n - 1 - t)<n):(jm n (gf c n t)).set (c (n - 1 - t)) ((n - 1 - t:Nat):Int)=jm n (gf c n (t+1)):=by
 apply qE
 ·simp [jm]
 ·intro j h1 h2
  simp only [jm,IZ,Jg,Gj,gf]
  split
  ·rfl
  ·rfl
def stepG (d:Dz) (c:Nat->Nat) (k s:Nat):Nat:=c ((bK d (gf c d.nx.length d.nx.length k)).getD s 0)
theorem XX {d:Dz} (hv:okD d=true) {c:Nat->Nat} {m k s:Nat} (h:Cls (bK d) (iW d) d.nx.length c m) (hk:∃q,q<d.nx.length/\c q=k) (hs:s<d.sz.toNat):stepG d c k s=aI (bK d) c d.nx.length k s:=by
 obtain ⟨q,hq,rfl⟩:=hk
 obtain ⟨g1,g2⟩:=JW (c:=c) (n:=d.nx.length) (t:=d.nx.length) (j:=q) (aY _) (by omega) hq
 have:=wH (vN hv) h g1 hs
 rw [g2] at this
 exact this.symm
theorem Y0 {d:Dz} {c:Nat->Nat} {m k:Nat} (h:Cls (bK d) (iW d) d.nx.length c m) (hk:∃q,q<d.nx.length/\c q=k):iW d (gf c d.nx.length d.nx.length k)=iW d (Go.MN.fst c d.nx.length k):=by
 obtain ⟨q,hq,rfl⟩:=hk
 obtain ⟨g1,g2⟩:=JW (c:=c) (n:=d.nx.length) (t:=d.nx.length) (j:=q) (aY _) (by omega) hq
 obtain ⟨f1,f2⟩:=Dt (c:=c) hq
 exact h.fin g1 f1 (by rw [g2,f2])
theorem YA (d:Dz) (hv:okD d=true) (c:Nat->Nat) (hc:∀i,i<d.nx.length->c i<d.nx.length) (k s:Nat) (hk:k<d.nx.length) (hs:s<d.sz.toNat):HT Try.prog 109 [.int .i64 k,.int .i64 s,.ptr [.sl d.nx.length (HL.ints (jm d.nx.length c))] 0,.ptr (dC d) 0,.ptr [.sl d.nx.length (HL.ints (jm d.nx.length (gf c d.nx.length d.nx.length)))] 0] (fun r=>r=.int .i64 (stepG d c k s)):=by
 obtain ⟨h1,h2,h3,h4,h5⟩:=lD hv
 have ok:=vN hv
 refine HT.of rfl adb (bF rfl) ?_
 unfold c109
 simp only [ay,Nat.reduceAdd,dC]
 have hg:=VB (c:=c) (n:=d.nx.length) (by omega) d.nx.length k
 generalize hge:gf c d.nx.length d.nx.length k=g at hg
 have e1:(HL.ints (jm d.nx.length (gf c d.nx.length d.nx.length))).getD k .dead=.int .i64 g:=by rw [U7 _ hk,hge]
 have e2:=yK d.nx hg
 have hr:=mO hv hg
 have hrl:(d.nx.getD g []).length=d.sz.toNat:=by omega
 have e3:(HL.ints (d.nx.getD g [])).getD s .dead=.int .i64 ((d.nx.getD g []).getD s 0):=AX (by omega)
 have hx:=hr.2 s (by omega)
 have hx2:(bK d g).getD s 0=((d.nx.getD g []).getD s 0).toNat:=XL (by omega)
 have e4:(HL.ints (jm d.nx.length c)).getD ((d.nx.getD g []).getD s 0).toNat .dead=.int .i64 (stepG d c k s):=by
  rw [U7 c (by omega)];unfold stepG;rw [hge,hx2]
 generalize d.nx.getD g []=row at e2 e3 e4 hx hrl
 generalize row.getD s 0=x at e3 e4 hx
 refine zF ⟨?_⟩
 refine jR [2,3,4] [] aA aA (fun _ _ _=>False) (by simp [au,HV.deep,aQ,kW,FC,pX]) (by simp) ?_
 refine fP (zA @e1 (zA @e2 (zA @e3 @e4))) ⟨?_⟩
 refine ae ?_
 rfl
theorem YC (d:Dz) (hv:okD d=true) (c:Nat->Nat) (k:Nat) (hk:k<d.nx.length):HT Try.prog 110 [.int .i64 k,.ptr (dC d) 0,.ptr [.sl d.nx.length (HL.ints (jm d.nx.length (gf c d.nx.length d.nx.length)))] 0] (fun r=>r=.bool (iW d (gf c d.nx.length d.nx.length k))):=by
 obtain ⟨h1,h2,h3,h4,h5⟩:=lD hv
 refine HT.of rfl acX (bF rfl) ?_
 unfold ad1
 simp only [ay,Nat.reduceAdd,dC]
 have hg:=VB (c:=c) (n:=d.nx.length) (by omega) d.nx.length k
 generalize hge:gf c d.nx.length d.nx.length k=g at hg
 have e1:(HL.ints (jm d.nx.length (gf c d.nx.length d.nx.length))).getD k .dead=.int .i64 g:=by rw [U7 _ hk,hge]
 have e2:(HL.bools d.fn).getD g .dead=.bool (iW d g):=by
  have:g<d.fn.length:=by omega
  simp [HL.bools,iW,this]
 refine zF ⟨?_⟩
 refine jR [1,2] [] aA aA (fun _ _ _=>False) (by simp [au,HV.deep,aQ,kW,FC,pX]) (by simp) ?_
 refine fP (zA @e1 @e2) ⟨?_⟩
 refine ae ?_
 rfl
end Go.Proofs.Ytlbdmpjnmfmnfaa
end
section
namespace Go.FS
def sy (s:Int):List Int:=if s = -1 then [] else [s]
inductive Tr (al:List A):Int->List Int->List Int->Int->Prop
 | nil {p:Int}:Tr al p [] [] p
 | step {a:A} {u v:List Int} {q:Int}:a∈al->Tr al a.t u v q->Tr al a.f (sy a.i++u) (sy a.o++v) q
section
variable {al:List A}
theorem Tr.snoc {p q:Int} {u v:List Int} (h:Tr al p u v q) {a:A} (ha:a∈al) (hq:a.f=q):Tr al p (u++sy a.i) (v++sy a.o) a.t:=by
 induction h with
 | nil =>
  subst hq
  have:=Tr.step ha (Tr.nil (al:=al) (p:=a.t))
  simpa using this
 | step hb _ ih=>rw [List.append_assoc,List.append_assoc];exact .step hb (ih hq)
theorem Tr.append {p q r:Int} {u v u' v':List Int} (h:Tr al p u v q) (h':Tr al q u' v' r):Tr al p (u++u') (v++v') r:=by
 induction h with
 | nil=>exact h'
 | step hb _ ih=>rw [List.append_assoc,List.append_assoc];exact .step hb (ih h')
theorem Tr.rev {p:Int} {P:List Int->List Int->Int->Prop} (h0:P [] [] p) (hs:∀ {u v:List Int} {a:A},Tr al p u v a.f->P u v a.f->a∈al->P (u++sy a.i) (v++sy a.o) a.t):∀ {q:Int} {u v:List Int},Tr al p u v q->P u v q:=by
 have key:∀ {r q:Int} {u v u0 v0:List Int},Tr al r u v q->Tr al p u0 v0 r->P u0 v0 r->P (u0++u) (v0++v) q:=by
  intro r q u v u0 v0 h
  induction h generalizing u0 v0 with
  | nil=>intro _ h1;simpa using h1
  | @step a u v q ha _ ih =>
   intro h1 h2
   have:=ih (h1.snoc ha rfl) (hs h1 h2 ha)
   simpa using this
 intro q u v h
 simpa using key h .nil h0
variable {fin:List Bool} {w:List Int}
theorem YD {i:Nat} (h:i<w.length):w.take (i+1)=w.take i++[w.getD i 0]:=by
 rw [List.take_add_one];simp [h]
theorem RV {i:Nat} (h:i<w.length):w.drop i=w.getD i 0::w.drop (i+1):=by
 rw [List.drop_eq_getElem_cons h];simp [h]
theorem aau {x y:Nd} {o:Int} (h:Mv al w x o y) {v:List Int} (h0:0<=x.2) (h1:x.2<=w.length) (ht:Tr al 0 (w.take x.2.toNat) v x.1):0<=y.2/\y.2<=w.length/\Tr al 0 (w.take y.2.toNat) (v++sy o) y.1:=by
 cases h with
 | @eps a _ ha hf hi =>
  have:=ht.snoc ha hf
  rw [sy,if_pos hi,List.append_nil] at this
  exact ⟨h0,h1,this⟩
 | @sym a _ ha hf hi h2 h3 h4 =>
  have:=ht.snoc ha hf
  rw [sy,if_neg hi,<- h4,<- YD (by omega)] at this
  refine ⟨by simp only;omega,by simp only;omega,?_⟩
  have e:(x.2+1).toNat=x.2.toNat+1:=by omega
  simp only
  rw [e];exact this
theorem adC {v:List Int} {y:Nd} (h:At fin al w v y):0<=y.2/\y.2<=w.length/\Tr al 0 (w.take y.2.toNat) v y.1:=by
 induction h with
 | nil _=>exact ⟨by simp,by simp,.nil⟩
 | eps _ hm _ ih =>
  have:=aau hm ih.1 ih.2.1 ih.2.2
  rw [sy,if_pos rfl,List.append_nil] at this
  exact this
 | sym _ hm hs _ ih =>
  have:=aau hm ih.1 ih.2.1 ih.2.2
  rw [sy,if_neg hs] at this
  exact this
theorem Ll {p q:Int} {u v:List Int} (h:Tr al p u v q) (hq:isFin fin q):∀ {i:Int},0<=i->i<=w.length->w.drop i.toNat=u->Good fin al w (p,i):=by
 induction h with
 | nil =>
  intro i h0 h1 hd
  have:i=w.length:=by
   have:=congrArg List.length hd
   rw [List.length_drop] at this
   simp at this;omega
  subst this
  exact .fin hq
 | @step a u v q ha h ih =>
  intro i h0 h1 hd
  by_cases hi:a.i = -1
  ·rw [sy,if_pos hi] at hd
   exact .mv (.eps (x:=(a.f,i)) ha rfl hi) (ih hq h0 h1 hd)
  ·rw [sy,if_neg hi] at hd
   have hl:i.toNat<w.length:=by
    rcases Nat.lt_or_ge i.toNat w.length with h|h
    ·exact h
    ·rw [List.drop_eq_nil_of_le h] at hd;cases hd
   rw [RV hl] at hd
   simp only [List.cons_append,List.nil_append,List.cons.injEq] at hd
   refine .mv (.sym (x:=(a.f,i)) ha rfl hi h0 (by simp only;omega) hd.1) (ih hq (by omega) (by omega) ?_)
   rw [show (i+1).toNat=i.toNat+1 by omega];exact hd.2
theorem abY {p q:Int} {u v:List Int} (h:Tr al p u v q) (hq:isFin fin q):∀ {i:Int} {v0:List Int},At fin al w v0 (p,i)->0<=i->i<=w.length->w.drop i.toNat=u->Out fin al w (v0++v):=by
 induction h with
 | nil =>
  intro i v0 hA h0 h1 hd
  have:i=w.length:=by
   have:=congrArg List.length hd
   rw [List.length_drop] at this
   simp at this;omega
  subst this
  rw [List.append_nil]
  exact ⟨_,hA,hq⟩
 | @step a u v q ha h ih =>
  intro i v0 hA h0 h1 hd
  have go:∀ {y:Nd},Mv al w (a.f,i) a.o y->Good fin al w y->y.1=a.t->0<=y.2->y.2<=w.length->w.drop y.2.toNat=u->Out fin al w (v0++(sy a.o++v)):=fun {y} hm hg hy h2 h3 h4=>by
   obtain ⟨y1,y2⟩:=y
   simp only at hy h2 h3 h4
   subst hy
   by_cases ho:a.o = -1
   ·rw [sy,if_pos ho,List.nil_append]
    rw [ho] at hm
    exact ih hq (hA.eps hm hg) h2 h3 h4
   ·rw [sy,if_neg ho,<- List.append_assoc]
    exact ih hq (hA.sym hm ho hg) h2 h3 h4
  by_cases hi:a.i = -1
  ·rw [sy,if_pos hi] at hd
   exact go (.eps (x:=(a.f,i)) ha rfl hi) (Ll h hq h0 h1 hd) rfl h0 h1 hd
  ·rw [sy,if_neg hi] at hd
   have hl:i.toNat<w.length:=by
    rcases Nat.lt_or_ge i.toNat w.length with h|h
    ·exact h
    ·rw [List.drop_eq_nil_of_le h] at hd;cases hd
   rw [RV hl] at hd
   simp only [List.cons_append,List.nil_append,List.cons.injEq] at hd
   have h5:w.drop (i+1).toNat=u:=by rw [show (i+1).toNat=i.toNat+1 by omega];exact hd.2
   exact go (.sym (x:=(a.f,i)) ha rfl hi h0 (by simp only;omega) hd.1) (Ll h hq (by omega) (by omega) h5) rfl (by simp only;omega) (by simp only;omega) h5
theorem out_tr {v:List Int}:Out fin al w v <-> ∃p,Tr al 0 w v p/\isFin fin p:=by
 constructor
 ·rintro ⟨p,h,hf⟩
  have:=(adC h).2.2
  simp only [Int.toNat_natCast,List.take_length] at this
  exact ⟨p,this,hf⟩
 ·rintro ⟨p,h,hf⟩
  have hg:Good fin al w (0,0):=Ll h hf (by omega) (by omega) (by simp)
  have:=abY h hf (i:=0) (.nil hg) (by omega) (by omega) (by simp)
  simpa using this
end
section
variable {fin fin':List Bool} {al al':List A} {w w':List Int}
theorem abu (hk:Eh al) {L:List (List Int)} (h:∀v,Out fin al w v->v∈L):∃n,sH fin al w n=[]:=by
 obtain ⟨m,hm⟩:∃m,∀v∈L,v.length<m:=by
  clear h
  induction L with
  | nil=>exact ⟨0,by simp⟩
  | cons v L ih =>
   obtain ⟨m,hm⟩:=ih
   refine ⟨max m (v.length+1),fun u hu=>?_⟩
   rcases List.mem_cons.1 hu with rfl|hu
   ·omega
   ·have:=hm u hu;omega
 refine ⟨m,?_⟩
 apply List.eq_nil_iff_forall_not_mem.2
 intro v hv
 obtain ⟨hb,hl⟩:=(oK hk).1 hv
 obtain ⟨u,hu⟩:=hb.out
 have:=hm _ (h _ hu)
 rw [List.length_append] at this
 omega
end
def inv (a:A):A:=⟨a.f,a.o,a.i,a.t⟩
end Go.FS
end
