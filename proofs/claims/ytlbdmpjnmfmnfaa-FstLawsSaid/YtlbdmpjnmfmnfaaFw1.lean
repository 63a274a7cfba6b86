import Derived.Test.YtlbdmpjnmfmnfaaFs2
import Derived.Test.YtlbdmpjnmfmnfaaFtZ
set_option linter.unusedSimpArgs false
set_option linter.unusedVariables false
namespace Go.Proofs.Ytlbdmpjnmfmnfaa
set_option linter.unusedSimpArgs false
set_option linter.unnecessarySimpa false
open Go.RowKit Go.HL Go.FS
theorem vS {al L:List A} (h:∀a∈al,a∈L) {p q:Int} {u v:List Int} (ht:Tr al p u v q):Tr L p u v q:=by
 induction ht with
 | nil=>exact .nil
 | step ha _ ih=>exact .step (h _ ha) ih
theorem EP {al:List A} (d:Int) {p q:Int} {u v:List Int} (ht:Tr al p u v q):Tr (al.map (iV d)) (p+d) u v (q+d):=by
 induction ht with
 | nil=>exact .nil
 | @step a u v q ha _ ih=>exact .step (a:=iV d a) (List.mem_map.2 ⟨a,ha,rfl⟩) ih
theorem Dl {L al:List A} {d:Int} {S:Int->Prop} (h:∀a∈L,S (a.f - d)->∃b∈al,a=iV d b/\S b.t) {c r:Int} {u v:List Int} (ht:Tr L c u v r):S (c - d)->S (r - d)/\Tr al (c - d) u v (r - d):=by
 induction ht with
 | nil=>intro hs;exact ⟨hs,.nil⟩
 | @step a u v q ha _ ih =>
  intro hs
  obtain ⟨b,hb,rfl,hbt⟩:=h a ha hs
  have e:(iV d b).t - d=b.t:=by simp only [iV];omega
  have e2:(iV d b).f - d=b.f:=by simp only [iV];omega
  rw [e] at ih
  obtain ⟨h1,h2⟩:=ih hbt
  rw [e2]
  exact ⟨h1,.step hb h2⟩
theorem jm_sy {p q:Int}:sy (jm p q).i=[]/\sy (jm p q).o=[]:=⟨rfl,rfl⟩
theorem ET {L:List A} {p q r:Int} {u v:List Int} (hm:jm p q∈L) (h:Tr L q u v r):Tr L p u v r:=by
 have:=Tr.step (a:=jm p q) hm h
 rw [jm_sy.1,jm_sy.2,List.nil_append,List.nil_append] at this
 exact this
theorem tZ {F G:List Bool} {r:Int}:isFin (F++G) r <-> (isFin F r\/F.length<=r/\isFin G (r - F.length)):=by
 unfold isFin
 simp only [List.getD_eq_getElem?_getD]
 constructor
 ·rintro ⟨h1,h2⟩
  by_cases h:r<F.length
  ·rw [List.getElem?_append_left (by omega)] at h2;exact .inl ⟨h1,h2⟩
  ·rw [List.getElem?_append_right (by omega)] at h2
   refine .inr ⟨by omega,by omega,?_⟩
   rw [show (r - (F.length:Int)).toNat=r.toNat - F.length by omega];exact h2
 ·rintro (⟨h1,h2⟩|⟨h0,h1,h2⟩)
  ·refine ⟨h1,?_⟩
   by_cases h:r.toNat<F.length
   ·rw [List.getElem?_append_left h];exact h2
   ·rw [List.getElem?_eq_none (by omega)] at h2;cases h2
  ·refine ⟨by omega,?_⟩
   rw [List.getElem?_append_right (by omega),show r.toNat - F.length=(r - (F.length:Int)).toNat by omega];exact h2
theorem gZ {F:List Bool} {r:Int} (h:isFin F r):0<=r/\r<F.length:=by
 obtain ⟨h1,h2⟩:=h
 refine ⟨h1,?_⟩
 by_cases h:r.toNat<F.length
 ·omega
 ·rw [List.getD_eq_getElem?_getD,List.getElem?_eq_none (by omega)] at h2;cases h2
theorem sG {n:Nat} {r:Int}:¬ isFin (List.replicate n false) r:=by
 rintro ⟨h1,h2⟩
 rw [List.getD_eq_getElem?_getD,List.getElem?_replicate] at h2
 split at h2<;>cases h2
theorem wE {F:List Bool} {i:Int}:i∈jS F F.length <-> isFin F i:=by
 unfold jS
 simp only [List.mem_map,List.mem_filter,List.mem_range]
 constructor
 ·rintro ⟨j,⟨h1,h2⟩,rfl⟩;exact ⟨by omega,by simpa using h2⟩
 ·intro h
  have:=gZ h
  exact ⟨i.toNat,⟨by omega,h.2⟩,by omega⟩
section
variable {p q:Tn}
theorem IG (h:pU [p,q]=true):okF (Bi p q).1 (Bi p q).2=true/\(Bi p q).1.length=1+p.1.length+q.1.length/\(Bi p q).2.length=2+p.2.length+q.2.length:=by
 obtain ⟨hp,hq,h1,h2⟩:=Ho h
 obtain ⟨a1,a2,a3⟩:=dR hp
 obtain ⟨b1,b2,b3⟩:=dR hq
 have e:Bi p q=([false]++(p.1++q.1),[jm 0 1,jm 0 (1+p.1.length)]++p.2.map (iV 1)++q.2.map (iV (1+p.1.length))):=by unfold Bi;rw [if_pos h]
 rw [e]
 refine ⟨zA (by simp) (by simp;omega) (by simp;omega) fun a ha=>?_,by simp;omega,by simp;omega⟩
 simp only [List.length_append,List.length_cons,List.length_nil,List.mem_append,List.mem_cons,List.not_mem_nil,or_false,List.mem_map] at ha ⊢
 rcases ha with ((rfl|rfl)|⟨b,hb,rfl⟩)|⟨b,hb,rfl⟩
 ·simp only [jm];omega
 ·simp only [jm];omega
 ·have:=dh hp hb;simp only [iV];omega
 ·have:=dh hq hb;simp only [iV];omega
theorem Il (h:pU [p,q]=true) {w v:List Int}:Out (Bi p q).1 (Bi p q).2 w v <-> Out p.1 p.2 w v\/Out q.1 q.2 w v:=by
 obtain ⟨hp,hq,h1,h2⟩:=Ho h
 have e:Bi p q=([false]++(p.1++q.1),[jm 0 1,jm 0 (1+p.1.length)]++p.2.map (iV 1)++q.2.map (iV (1+p.1.length))):=by unfold Bi;rw [if_pos h]
 obtain ⟨a1,a2,a3⟩:=dR hp
 obtain ⟨b1,b2,b3⟩:=dR hq
 rw [e,out_tr,out_tr,out_tr]
 generalize hL:[jm 0 1,jm 0 (1+(p.1.length:Int))]++p.2.map (iV 1)++q.2.map (iV (1+p.1.length))=L
 have hm:∀a,a∈L <-> a=jm 0 1\/a=jm 0 (1+(p.1.length:Int))\/(∃b∈p.2,iV 1 b=a)\/∃b∈q.2,iV (1+(p.1.length:Int)) b=a:=fun a=>by
  rw [<- hL];simp only [List.mem_append,List.mem_cons,List.not_mem_nil,or_false,List.mem_map,or_assoc]
 have hfin:∀r:Int,isFin ([false]++(p.1++q.1)) r <-> isFin p.1 (r - 1)\/isFin q.1 (r - (1+p.1.length)):=fun r=>by
  rw [tZ,tZ]
  simp only [List.length_cons,List.length_nil]
  have hn:¬ isFin [false] r:=sG (n:=1)
  constructor
  ·rintro (h|⟨_,h|⟨_,h⟩⟩)
   ·exact absurd h hn
   ·left;simpa using h
   ·right;rw [show r - (1+(p.1.length:Int))=r - (((0+1:Nat):Int)) - p.1.length by omega];exact h
  ·rintro (h|h)
   ·have:=gZ h
    exact .inr ⟨by omega,.inl (by simpa using h)⟩
   ·have:=gZ h
    refine .inr ⟨by omega,.inr ⟨by omega,?_⟩⟩
    rw [show r - (((0+1:Nat):Int)) - p.1.length=r - (1+(p.1.length:Int)) by omega];exact h
 have P1:∀a∈L,(0<=a.f - 1/\a.f - 1<p.1.length)->∃b∈p.2,a=iV 1 b/\(0<=b.t/\b.t<p.1.length):=fun a ha hs=>by
  rcases (hm a).1 ha with rfl|rfl|⟨b,hb,rfl⟩|⟨b,hb,rfl⟩
  ·simp only [jm] at hs;omega
  ·simp only [jm] at hs;omega
  ·have:=dh hp hb;exact ⟨b,hb,rfl,by omega⟩
  ·have:=dh hq hb;simp only [iV] at hs;omega
 have P2:∀a∈L,(0<=a.f - (1+(p.1.length:Int))/\a.f - (1+(p.1.length:Int))<q.1.length)->∃b∈q.2,a=iV (1+(p.1.length:Int)) b/\(0<=b.t/\b.t<q.1.length):=fun a ha hs=>by
  rcases (hm a).1 ha with rfl|rfl|⟨b,hb,rfl⟩|⟨b,hb,rfl⟩
  ·simp only [jm] at hs;omega
  ·simp only [jm] at hs;omega
  ·have:=dh hp hb;simp only [iV] at hs;omega
  ·have:=dh hq hb;exact ⟨b,hb,rfl,by omega⟩
 constructor
 ·rintro ⟨r,ht,hf⟩
  generalize hc:(0:Int)=c at ht
  cases ht with
  | nil =>
   subst hc
   rcases (hfin 0).1 hf with h|h<;>have:=gZ h<;>omega
  | @step a u v _ ha ht =>
   rcases (hm a).1 ha with rfl|rfl|⟨b,hb,rfl⟩|⟨b,hb,rfl⟩
   ·obtain ⟨h3,h4⟩:=Dl (S:=fun x=>0<=x/\x<(p.1.length:Int)) P1 ht (by simp only [jm];omega)
    refine .inl ⟨_,h4,?_⟩
    rcases (hfin r).1 hf with h|h
    ·exact h
    ·have:=gZ h;omega
   ·obtain ⟨h3,h4⟩:=Dl (S:=fun x=>0<=x/\x<(q.1.length:Int)) P2 ht (by simp only [jm];omega)
    have e0:(jm 0 (1+(p.1.length:Int))).t - (1+(p.1.length:Int))=0:=by simp only [jm];omega
    rw [e0] at h4
    refine .inr ⟨_,h4,?_⟩
    rcases (hfin r).1 hf with h|h
    ·have:=gZ h;omega
    ·exact h
   ·have:=dh hp hb;simp only [iV] at hc;omega
   ·have:=dh hq hb;simp only [iV] at hc;omega
 ·rintro (⟨r,ht,hf⟩|⟨r,ht,hf⟩)
  ·refine ⟨r+1,ET ((hm _).2 (.inl rfl)) ?_,(hfin _).2 (.inl (by rw [show r+1 - 1=r by omega];exact hf))⟩
   have:=vS (L:=L) (fun a ha=>(hm a).2 (.inr (.inr (.inl (List.mem_map.1 ha))))) (EP 1 ht)
   simpa using this
  ·refine ⟨r+(1+p.1.length),ET ((hm _).2 (.inr (.inl rfl))) ?_,(hfin _).2 (.inr (by rw [show r+(1+(p.1.length:Int)) - (1+p.1.length)=r by omega];exact hf))⟩
   have:=vS (L:=L) (fun a ha=>(hm a).2 (.inr (.inr (.inr (List.mem_map.1 ha))))) (EP (1+(p.1.length:Int)) ht)
   simpa using this
theorem then_ok (h:pU [p,q]=true):okF (jg p q).1 (jg p q).2=true/\(jg p q).1.length=p.1.length+q.1.length/\(jg p q).2.length<=p.2.length+q.2.length+p.1.length:=by
 obtain ⟨hp,hq,h1,h2⟩:=Ho h
 obtain ⟨a1,a2,a3⟩:=dR hp
 obtain ⟨b1,b2,b3⟩:=dR hq
 have e:jg p q=(List.replicate p.1.length false++q.1,p.2.map (iV 0)++q.2.map (iV p.1.length)++(jS p.1 p.1.length).map fun i=>jm i p.1.length):=by unfold jg;rw [if_pos h]
 rw [e]
 have hfl:=nO p.1 p.1.length
 refine ⟨zA (by simp;omega) (by simp;omega) (by simp;omega) fun a ha=>?_,by simp,by simp;omega⟩
 simp only [List.length_append,List.length_replicate,List.mem_append,List.mem_map,wE] at ha ⊢
 rcases ha with (⟨b,hb,rfl⟩|⟨b,hb,rfl⟩)|⟨i,hi,rfl⟩
 ·have:=dh hp hb;simp only [iV];omega
 ·have:=dh hq hb;simp only [iV];omega
 ·have:=gZ hi;simp only [jm];omega
theorem Ed (h:pU [p,q]=true) {w v:List Int}:Out (jg p q).1 (jg p q).2 w v <-> ∃w1 w2 v1 v2,w=w1++w2/\v=v1++v2/\Out p.1 p.2 w1 v1/\Out q.1 q.2 w2 v2:=by
 obtain ⟨hp,hq,h1,h2⟩:=Ho h
 have e:jg p q=(List.replicate p.1.length false++q.1,p.2.map (iV 0)++q.2.map (iV p.1.length)++(jS p.1 p.1.length).map fun i=>jm i p.1.length):=by unfold jg;rw [if_pos h]
 obtain ⟨a1,a2,a3⟩:=dR hp
 obtain ⟨b1,b2,b3⟩:=dR hq
 simp only [e,out_tr]
 generalize hL:p.2.map (iV 0)++q.2.map (iV p.1.length)++((jS p.1 p.1.length).map fun i=>jm i p.1.length)=L
 have hm:∀a,a∈L <-> (∃b∈p.2,iV 0 b=a)\/(∃b∈q.2,iV (p.1.length:Int) b=a)\/∃i,isFin p.1 i/\jm i p.1.length=a:=fun a=>by
  rw [<- hL];simp only [List.mem_append,List.mem_map,or_assoc,wE]
 have hfin:∀r:Int,isFin (List.replicate p.1.length false++q.1) r <-> (p.1.length:Int)<=r/\isFin q.1 (r - p.1.length):=fun r=>by
  rw [tZ]
  simp only [List.length_replicate]
  constructor
  ·rintro (h|h)
   ·exact absurd h sG
   ·exact h
  ·exact .inr
 have P2:∀a∈L,(0<=a.f - (p.1.length:Int)/\a.f - (p.1.length:Int)<q.1.length)->∃b∈q.2,a=iV (p.1.length:Int) b/\(0<=b.t/\b.t<q.1.length):=fun a ha hs=>by
  rcases (hm a).1 ha with ⟨b,hb,rfl⟩|⟨b,hb,rfl⟩|⟨i,hi,rfl⟩
  ·have:=dh hp hb;simp only [iV] at hs;omega
  ·have:=dh hq hb;exact ⟨b,hb,rfl,by omega⟩
  ·have:=gZ hi;simp only [jm] at hs;omega
 have P1:∀ {c r:Int} {u v:List Int},Tr L c u v r->0<=c->c<p.1.length->(p.1.length:Int)<=r->∃u1 u2 v1 v2 s,u=u1++u2/\v=v1++v2/\Tr p.2 c u1 v1 s/\isFin p.1 s/\Tr q.2 0 u2 v2 (r - p.1.length):=fun {c r u v} ht=>by
  induction ht with
  | nil=>intro _ _ _;omega
  | @step a u v r ha ht ih =>
   intro h0 hc hr
   rcases (hm a).1 ha with ⟨b,hb,rfl⟩|⟨b,hb,rfl⟩|⟨i,hi,rfl⟩
   ·have hb':=dh hp hb
    obtain ⟨u1,u2,v1,v2,s,rfl,rfl,h5,h6,h7⟩:=ih (by simp only [iV];omega) (by simp only [iV];omega) hr
    refine ⟨sy b.i++u1,u2,sy b.o++v1,v2,s,by simp [iV],by simp [iV],?_,h6,h7⟩
    have e1:(iV 0 b).t=b.t:=by simp [iV]
    have e2:(iV 0 b).f=b.f:=by simp [iV]
    rw [e1] at h5
    rw [e2]
    exact .step hb h5
   ·have:=dh hq hb;simp only [iV] at hc;omega
   ·have hil:=gZ hi
    obtain ⟨h3,h4⟩:=Dl (S:=fun x=>0<=x/\x<(q.1.length:Int)) P2 ht (by simp only [jm];omega)
    have e0:(jm i (p.1.length:Int)).t - (p.1.length:Int)=0:=by simp only [jm];omega
    rw [e0] at h4
    exact ⟨[],u,[],v,i,by simp [jm_sy],by simp [jm_sy],.nil,hi,h4⟩
 constructor
 ·rintro ⟨r,ht,hf⟩
  obtain ⟨hr,hf⟩:=(hfin r).1 hf
  obtain ⟨u1,u2,v1,v2,s,rfl,rfl,h5,h6,h7⟩:=P1 ht (by omega) (by omega) hr
  exact ⟨u1,u2,v1,v2,rfl,rfl,⟨s,h5,h6⟩,⟨_,h7,hf⟩⟩
 ·rintro ⟨w1,w2,v1,v2,rfl,rfl,⟨s,h5,h6⟩,⟨r,h7,h8⟩⟩
  have t1:=vS (L:=L) (fun a ha=>(hm a).2 (.inl (List.mem_map.1 ha))) (EP 0 h5)
  have t2:=vS (L:=L) (fun a ha=>(hm a).2 (.inr (.inl (List.mem_map.1 ha)))) (EP (p.1.length:Int) h7)
  simp only [Int.add_zero,Int.zero_add] at t1 t2
  have hr:=gZ h8
  exact ⟨r+p.1.length,t1.append (ET ((hm _).2 (.inr (.inr ⟨s,h6,rfl⟩))) t2),(hfin _).2 ⟨by omega,by rw [show r+(p.1.length:Int) - p.1.length=r by omega];exact h8⟩⟩
inductive Rep (R:List Int->List Int->Prop):List Int->List Int->Prop
 | nil:Rep R [] []
 | step {u v u' v':List Int}:R u v->Rep R u' v'->Rep R (u++u') (v++v')
theorem Rep.append {R:List Int->List Int->Prop} {u v u' v':List Int} (h:Rep R u v) (h':Rep R u' v'):Rep R (u++u') (v++v'):=by
 induction h with
 | nil=>exact h'
 | step h1 _ ih=>rw [List.append_assoc,List.append_assoc];exact .step h1 ih
theorem Rep.one {R:List Int->List Int->Prop} {u v:List Int} (h:R u v):Rep R u v:=by
 have:=Rep.step h .nil
 simpa using this
theorem S9 {R:List Int->List Int->Prop} {u v:List Int}:Rep (Rep R) u v <-> Rep R u v:=by
 constructor
 ·intro h
  induction h with
  | nil=>exact .nil
  | step h1 _ ih=>exact h1.append ih
 ·exact .one
theorem KH {R S:List Int->List Int->Prop} (h:∀u v,R u v <-> S u v) {u v:List Int}:Rep R u v <-> Rep S u v:=by
 have:R=S:=funext fun u=>funext fun v=>propext (h u v)
 rw [this]
theorem Jb (h:pU [p]=true):okF (iF p).1 (iF p).2=true/\(iF p).1.length=p.1.length+1/\(iF p).2.length<=1+p.2.length+p.1.length:=by
 obtain ⟨hp,h1,h2⟩:=Vj h
 obtain ⟨a1,a2,a3⟩:=dR hp
 have e:iF p=(true::List.replicate p.1.length false,[jm 0 1]++p.2.map (iV 1)++(jS p.1 p.1.length).map fun i=>jm (i+1) 0):=by unfold iF;rw [if_pos h]
 rw [e]
 have hfl:=nO p.1 p.1.length
 refine ⟨zA (by simp) (by simp;omega) (by simp;omega) fun a ha=>?_,by simp,by simp;omega⟩
 simp only [List.length_cons,List.length_replicate,List.mem_append,List.mem_cons,List.not_mem_nil,or_false,List.mem_map,wE] at ha ⊢
 rcases ha with (rfl|⟨b,hb,rfl⟩)|⟨i,hi,rfl⟩
 ·simp only [jm];omega
 ·have:=dh hp hb;simp only [iV];omega
 ·have:=gZ hi;simp only [jm];omega
theorem yO (h:pU [p]=true) {w v:List Int}:Out (iF p).1 (iF p).2 w v <-> Rep (Out p.1 p.2) w v:=by
 obtain ⟨hp,h1,h2⟩:=Vj h
 obtain ⟨a1,a2,a3⟩:=dR hp
 have e:iF p=(true::List.replicate p.1.length false,[jm 0 1]++p.2.map (iV 1)++(jS p.1 p.1.length).map fun i=>jm (i+1) 0):=by unfold iF;rw [if_pos h]
 rw [e,out_tr]
 generalize hL:[jm 0 1]++p.2.map (iV 1)++((jS p.1 p.1.length).map fun i=>jm (i+1) 0)=L
 have hm:∀a,a∈L <-> a=jm 0 1\/(∃b∈p.2,iV 1 b=a)\/∃i,isFin p.1 i/\jm (i+1) 0=a:=fun a=>by
  rw [<- hL];simp only [List.mem_append,List.mem_map,List.mem_cons,List.not_mem_nil,or_false,or_assoc,wE]
 have hfin:∀r:Int,isFin (true::List.replicate p.1.length false) r <-> r=0:=fun r=>by
  have:true::List.replicate p.1.length false=[true]++List.replicate p.1.length false:=rfl
  rw [this,tZ]
  constructor
  ·rintro (h|⟨_,h⟩)
   ·have:=gZ h
    simp only [List.length_cons,List.length_nil] at this;omega
   ·exact absurd h sG
  ·rintro rfl;exact .inl ⟨by omega,rfl⟩
 have P:∀ {c r:Int} {u v:List Int},Tr L c u v r->r=0->(c=0->Rep (Out p.1 p.2) u v)/\(1<=c->c<=p.1.length->∃u1 u2 v1 v2 s,u=u1++u2/\v=v1++v2/\Tr p.2 (c - 1) u1 v1 s/\isFin p.1 s/\Rep (Out p.1 p.2) u2 v2):=fun {c r u v} ht=>by
  induction ht with
  | nil=>intro h;exact ⟨fun _=>.nil,fun _ _=>by omega⟩
  | @step a u v r ha ht ih =>
   intro hr
   obtain ⟨i1,i2⟩:=ih hr
   rcases (hm a).1 ha with rfl|⟨b,hb,rfl⟩|⟨i,hi,rfl⟩
   ·refine ⟨fun _=>?_,fun h=>by simp only [jm] at h;omega⟩
    obtain ⟨u1,u2,v1,v2,s,rfl,rfl,h5,h6,h7⟩:=i2 (by simp only [jm];omega) (by simp only [jm];omega)
    have:Rep (Out p.1 p.2) (u1++u2) (v1++v2):=.step (out_tr.2 ⟨s,h5,h6⟩) h7
    simpa only [jm_sy.1,jm_sy.2,List.nil_append] using this
   ·have hb':=dh hp hb
    refine ⟨fun h=>by simp only [iV] at h;omega,fun _ _=>?_⟩
    obtain ⟨u1,u2,v1,v2,s,rfl,rfl,h5,h6,h7⟩:=i2 (by simp only [iV];omega) (by simp only [iV];omega)
    refine ⟨sy b.i++u1,u2,sy b.o++v1,v2,s,by simp [iV],by simp [iV],?_,h6,h7⟩
    have e1:(iV 1 b).t - 1=b.t:=by simp only [iV];omega
    have e2:(iV 1 b).f - 1=b.f:=by simp only [iV];omega
    rw [e1] at h5
    rw [e2]
    exact .step hb h5
   ·have hil:=gZ hi
    refine ⟨fun h=>by simp only [jm] at h;omega,fun _ _=>?_⟩
    have e2:(jm (i+1) 0).f - 1=i:=by simp only [jm];omega
    rw [e2]
    exact ⟨[],u,[],v,i,by simp [jm_sy],by simp [jm_sy],.nil,hi,i1 rfl⟩
 constructor
 ·rintro ⟨r,ht,hf⟩
  exact (P ht ((hfin r).1 hf)).1 rfl
 ·intro hr
  refine ⟨0,?_,(hfin 0).2 rfl⟩
  induction hr with
  | nil=>exact .nil
  | @step u v u' v' h1 _ ih =>
   obtain ⟨s,h5,h6⟩:=out_tr.1 h1
   have t1:=vS (L:=L) (fun a ha=>(hm a).2 (.inr (.inl (List.mem_map.1 ha)))) (EP 1 h5)
   simp only [Int.zero_add] at t1
   exact (ET ((hm _).2 (.inl rfl)) t1).append (ET ((hm _).2 (.inr (.inr ⟨s,h6,rfl⟩))) ih)
end
section
variable {fin:List Bool} {al:List A}
theorem Pj {p q:Int} {u v:List Int} (h:Tr al p u v q) (hf:isFin fin q):YQ fin al p.toNat:=by
 induction h with
 | nil=>exact .on hf.2
 | @step a _ _ _ ha _ ih=>exact .step (p:=(·.t)) (q:=(·.f)) ha (ih hf)
theorem NY (hv:okF fin al=true) {p q:Int} {u v:List Int} (h:Tr al p u v q) (hf:isFin fin q):0<=p->Rch al p.toNat->Tr (qG (jZ fin al) al) (cnt (jZ fin al) p.toNat:Nat) u v (cnt (jZ fin al) q.toNat:Nat)/\jZ fin al q.toNat=true:=by
 induction h with
 | @nil p=>intro h0 hr;exact ⟨.nil,kpF_iff.2 ⟨hr,.on hf.2⟩⟩
 | @step a u v q ha ht ih =>
  intro h0 hr
  have hrt:Rch al a.t.toNat:=.step (p:=(·.f)) (q:=(·.t)) ha hr
  have h1:=dh hv ha
  obtain ⟨h2,h3⟩:=ih hf (by omega) hrt
  have hlt:=Pj ht hf
  have hlf:YQ fin al a.f.toNat:=.step (p:=(·.t)) (q:=(·.f)) ha hlt
  exact ⟨.step (a:=⟨cnt (jZ fin al) a.f.toNat,a.i,a.o,cnt (jZ fin al) a.t.toNat⟩) (mem_arcT.2 ⟨a,ha,kpF_iff.2 ⟨hr,hlf⟩,kpF_iff.2 ⟨hrt,hlt⟩,rfl⟩) h2,h3⟩
theorem TI {k:Nat->Bool} {i j:Nat} (hi:k i=true) (hj:k j=true) (h:cnt k i=cnt k j):i=j:=by
 have h1:=vV (n:=max i j+1) (by omega) hi
 have h2:=vV (n:=max i j+1) (by omega) hj
 rw [h] at h1
 exact Option.some.inj (h1.symm.trans h2)
theorem OD (hv:okF fin al=true) {c d:Int} {u v:List Int} (h:Tr (qG (jZ fin al) al) c u v d):∀ {p:Int},0<=p->jZ fin al p.toNat=true->c=(cnt (jZ fin al) p.toNat:Nat)->∃q:Int,0<=q/\jZ fin al q.toNat=true/\d=(cnt (jZ fin al) q.toNat:Nat)/\Tr al p u v q:=by
 induction h with
 | nil=>intro p h0 hk hc;exact ⟨p,h0,hk,hc,.nil⟩
 | @step b u v d hb _ ih =>
  intro p h0 hk hc
  obtain ⟨a,ha,g1,g2,rfl⟩:=mem_arcT.1 hb
  have h1:=dh hv ha
  have e:a.f.toNat=p.toNat:=TI g1 hk (by simp only at hc;omega)
  obtain ⟨q,h3,h4,h5,h6⟩:=ih (p:=a.t) (by omega) g2 rfl
  refine ⟨q,h3,h4,h5,?_⟩
  rw [show p=a.f by omega]
  exact .step ha h6
theorem Ea (hv:okF fin al=true) {w v:List Int}:Out (trimF fin al).1 (trimF fin al).2 w v <-> Out fin al w v:=by
 obtain ⟨n1,n2,n3⟩:=dR hv
 unfold trimF
 rw [if_pos hv]
 by_cases h0:YQ fin al 0
 ·rw [if_pos h0,out_tr,out_tr]
  have hk0:jZ fin al 0=true:=kpF_iff.2 ⟨.on rfl,h0⟩
  constructor
  ·rintro ⟨d,ht,hf⟩
   obtain ⟨q,h3,h4,rfl,h6⟩:=OD hv ht (p:=0) (by omega) hk0 rfl
   refine ⟨q,h6,h3,?_⟩
   have:=hf.2
   simp only [Int.toNat_natCast] at this
   rwa [FV (Nw hv (kpF_iff.1 h4).2) h4] at this
  ·rintro ⟨q,ht,hf⟩
   obtain ⟨h1,h2⟩:=NY hv ht hf (by omega) (.on rfl)
   refine ⟨_,h1,by omega,?_⟩
   simp only [Int.toNat_natCast]
   rw [FV (Nw hv (kpF_iff.1 h2).2) h2]
   exact hf.2
 ·rw [if_neg h0,out_tr,out_tr]
  constructor
  ·rintro ⟨d,_,hf⟩
   exact absurd hf (sG (n:=1))
  ·rintro ⟨q,ht,hf⟩
   exact absurd (Pj ht hf) h0
theorem D8 (hv:okF fin al=true):okF (trimF fin al).1 (trimF fin al).2=true/\(trimF fin al).1.length<=fin.length/\(trimF fin al).2.length<=al.length:=by
 obtain ⟨n1,n2,n3⟩:=dR hv
 unfold trimF
 rw [if_pos hv]
 by_cases h0:Rc al (·.t) (·.f) (fun j=>fin.getD j false=true) 0
 ·rw [if_pos h0]
  exact ⟨TQ hv h0,by rw [oM];exact cnt_le,zJ al⟩
 ·rw [if_neg h0]
  exact ⟨zA (by simp) (by simp) (by simp) (by simp),by simpa using n1,by simp⟩
end
end Go.Proofs.Ytlbdmpjnmfmnfaa
