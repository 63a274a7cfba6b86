import Derived.Test.YtlbdmpjnmfmnfaaHlLg
import Derived.Test.YtlbdmpjnmfmnfaaHlFi
import Derived.Test.YtlbdmpjnmfmnfaaHlLo
import Derived.Test.YtlbdmpjnmfmnfaaFsB
import Derived.Test.YtlbdmpjnmfmnfaaFsZ
set_option linter.unusedSimpArgs false
set_option linter.unusedVariables false
set_option linter.unnecessarySimpa false
set_option maxHeartbeats 8000000
section
namespace Go.Proofs.Ytlbdmpjnmfmnfaa
open Go.RowKit Go.HL Go.FS
theorem BA (p q:Int):HT Try.prog 76 [.int .i64 p,.int .i64 q] (fun r=>r=.agg (aC ⟨p,-1,-1,q⟩)):=by
 refine HT.ofC rfl afL [4] rfl (aZ rfl) ?_
 unfold c76
 simp only [aA,Nat.reduceAdd]
 refine zF ⟨?_⟩
 refine ae ?_
 exact ⟨_,_,rfl,rfl,rfl⟩
theorem MZ (x d:Int) (h0 : -1000000<=x) (h1:x<=1000000) (h2:0<=d) (h3:d<=1000000):HT Try.prog 104 [.int .i64 x,.ptr [.int .i64 d] 0] (fun r=>r=.int .i64 (x+d)):=by
 refine HT.of rfl aeV (aZ rfl) ?_
 unfold ae7
 simp only [aA,Nat.reduceAdd]
 refine zF ⟨?_⟩
 refine ae ?_
 rfl
theorem Dq (d:Int):HT Try.prog 77 [.int .i64 d] (fun r=>r=.fn 104 [.optr [.int .i64 d]]):=by
 refine HT.of rfl af8 (aZ rfl) ?_
 unfold c77
 simp only [aA,Nat.reduceAdd]
 refine zF ⟨?_⟩
 refine EY (v:=.nilf) rfl rfl ?_
 refine zF ⟨?_⟩
 refine yu ay ?_
 refine zF ⟨?_⟩
 refine ae ?_
 rfl
def ER (l:List (List Bool×List A)):Nat:=(l.map fun p=>p.1.length).sum
def EX (l:List (List Bool×List A)):Nat:=(l.map fun p=>p.2.length).sum
def Dc (l:List (List Bool×List A)):Bool:=l.all (fun p=>okF p.1 p.2)&&decide (ER l<=2000/\EX l<=6000)
theorem Xa {l:List (List Bool×List A)} {i:Nat} (h:i<l.length):ER (l.take (i+1))=ER (l.take i)+(l.getD i default).1.length/\EX (l.take (i+1))=EX (l.take i)+(l.getD i default).2.length:=by
 unfold ER EX
 rw [vV,bM h,bH,bM h]
 simp only [qj,List.sum_append,F9,dV,pY,List.sum_cons,List.sum_nil,kC,Nat.add_zero,and_self]
theorem yP (l:List (List Bool×List A)) (hl:l.length<=10) (hb:∀p∈l,p.1.length<=1000000000/\p.2.length<=1000000000):HT Try.prog 73 [.sl l.length (recs fC l)] (fun r=>r=.bool (Dc l)):=by
 refine HT.of rfl afM (aZ rfl) ?_
 unfold c73
 simp only [aA,Nat.reduceAdd]
 refine zF ⟨?_⟩
 refine aI [3,4,7,8,9] (fun i:Nat=>i<=l.length/\(l.take i).all (fun p=>okF p.1 p.2)=true/\ER (l.take i)<=i*2048/\EX (l.take i)<=i*8192)
  (fun i=>⟨[(3,.int .i64 (ER (l.take i):Nat)),(4,.int .i64 (EX (l.take i):Nat)),(7,.sl l.length (recs fC l)),(8,.int .i64 l.length),(9,.int .i64 i)],[],0⟩)
  (fun i=>l.length - i) 0 ⟨by omega,by simp,by simp [ER],by simp [EX]⟩ rfl ?_
 rintro i ⟨hi,hv,hs,ha⟩
 by_cases hil:i<l.length
 ·obtain ⟨e1,e2⟩:=Xa hil
  have hm:l.getD i default∈l:=by rw [bH,bM hil];exact gy hil
  have hbi:=hb _ hm
  have hst:(l.take (i+1)).all (fun p=>okF p.1 p.2)=okF (l.getD i default).1 (l.getD i default).2:=by
   rw [vV,List.all_append,hv,jf]
   simp [hil]
  have hvd:=yH (l.getD i default).1 (l.getD i default).2 (by omega) (by omega)
  simp only [dE,fB] at hvd
  refine zF ⟨?_⟩
  refine aF ay aK (hvd) ?_
  rintro _ rfl
  cases hok:okF (l.getD i default).1 (l.getD i default).2 with
  | false =>
   have hf:Dc l=false:=by
    unfold Dc
    rw [Bool.and_eq_false_iff]
    exact .inl (List.all_eq_false.2 ⟨_,hm,by rw [hok];simp⟩)
   refine zG ⟨?_⟩
   refine zF ⟨?_⟩
   refine ae ?_
   rw [hf];rfl
  | true =>
   obtain ⟨h1,h2,h3⟩:=bY hok
   refine zG ⟨?_⟩
   refine zF ⟨?_⟩
   exact aP [3,4,7,8,9] (i+1) ⟨hil,by rw [hst];exact hok,by rw [e1];omega,by rw [e2];omega⟩ (by omega) (by rw [e1,e2];rfl)
 ·have e0:l.take i=l:=kD (by omega)
  rw [e0] at hv hs ha ⊢
  by_cases c1:ER l<=2000
  ·by_cases c2:EX l<=6000
   ·refine zF ⟨?_⟩
    refine ae ?_
    simp [bT,Dc,hv,c1,c2]
   ·refine zF ⟨?_⟩
    refine ae ?_
    simp [bT,Dc,hv,c1,c2]
  ·refine zF ⟨?_⟩
   refine ae ?_
   simp [bT,Dc,hv,c1]
inductive Rc (al:List A) (p q:A->Int) (S:Nat->Prop):Nat->Prop
 | on {i:Nat}:S i->Rc al p q S i
 | step {a:A}:a∈al->Rc al p q S (p a).toNat->Rc al p q S (q a).toNat
def cf (rb:List Bool):Nat:=(rb.filter fun b=>!b).length
theorem LP:∀ (rb:List Bool) (i:Nat),i<rb.length->rb.getD i false=false->cf (rb.set i true)+1=cf rb
 | [],i,h,_=>by simp at h
 | b::rb,0,_,h=>by
  simp only [List.getD_cons_zero] at h
  subst h
  simp [cf]
 | b::rb,i+1,h,he=>by
  have:=LP rb i (by simpa using h) (by simpa using he)
  unfold cf at this ⊢
  cases b<;>simp_all
section
variable {al:List A} {p q:A->Int} {S:Nat->Prop}
structure MI (al:List A) (p q:A->Int) (S:Nat->Prop) (n:Nat) (rb:List Bool):Prop where
 len:rb.length=n
 sound:∀i,rb.getD i false=true->Rc al p q S i
 base:∀i,i<n->S i->rb.getD i false=true
structure MJ (al:List A) (p q:A->Int) (S:Nat->Prop) (n:Nat) (rb0:List Bool) (k:Nat) (ag:Bool) (rb:List Bool):Prop where
 mi:MI al p q S n rb
 no:ag=false->rb=rb0/\∀a∈al.take k,rb.getD (p a).toNat false=true->rb.getD (q a).toNat false=true
 less:cf rb+(if ag then 1 else 0)<=cf rb0
theorem MJ.start {n:Nat} {rb:List Bool} (h:MI al p q S n rb):MJ al p q S n rb 0 false rb:=⟨h,fun _=>⟨rfl,by simp⟩,by simp⟩
theorem MJ.skip {n k:Nat} {rb0 rb:List Bool} {ag:Bool} (h:MJ al p q S n rb0 k ag rb) (hk:k<al.length) (hs:rb.getD (p (al.getD k default)).toNat false=true->rb.getD (q (al.getD k default)).toNat false=true):MJ al p q S n rb0 (k+1) ag rb:=by
 refine ⟨h.mi,fun ha=>⟨(h.no ha).1,fun a hm=>?_⟩,h.less⟩
 rw [bK hk] at hm
 rcases zl003.1 hm with hm|hm
 ·exact (h.no ha).2 a hm
 ·simp only [zl009] at hm;subst hm;exact hs
theorem MJ.add {n k:Nat} {rb0 rb:List Bool} {ag:Bool} (h:MJ al p q S n rb0 k ag rb) (hk:k<al.length) (hq:(q (al.getD k default)).toNat<n) (h1:rb.getD (p (al.getD k default)).toNat false=true) (h2:rb.getD (q (al.getD k default)).toNat false=false):MJ al p q S n rb0 (k+1) true (rb.set (q (al.getD k default)).toNat true):=by
 have hc:=LP rb _ (by rw [h.mi.len];exact hq) h2
 refine ⟨⟨by rw [List.length_set];exact h.mi.len,fun i hi=>?_,fun i hi hS=>?_⟩,fun ha=>absurd ha (by decide),by
  have:=h.less
  simp only [if_true]
  split at this<;>omega⟩
 ·rw [bH,vg] at hi
  by_cases e:(q (al.getD k default)).toNat=i
  ·rw [<- e]
   exact .step (fJ hk) (h.mi.sound _ h1)
  ·rw [if_neg e,<- bH] at hi
   exact h.mi.sound i hi
 ·rw [bH,vg]
  by_cases e:(q (al.getD k default)).toNat=i
  ·rw [if_pos e,if_pos (by rw [h.mi.len];exact hq)];rfl
  ·rw [if_neg e,<- bH];exact h.mi.base i hi hS
theorem MJ.done {n:Nat} {rb0 rb:List Bool} (h:MJ al p q S n rb0 al.length false rb) (hS:∀i,S i->i<n) (i:Nat):rb.getD i false=true <-> Rc al p q S i:=by
 refine ⟨h.mi.sound i,fun hr=>?_⟩
 induction hr with
 | on hs=>exact h.mi.base _ (hS _ hs) hs
 | step ha _ ih=>exact (h.no rfl).2 _ (by rw [fK];exact ha) ih
end
attribute [go_sem] List.length_replicate
theorem Qe (fin:List Bool) (al:List A) (hv:okF fin al=true):HT Try.prog 52 [.agg (dE fin al)] (fun r=>∃rb,r=.osl 1 fin.length (HL.bools rb)/\rb.length=fin.length/\∀i,rb.getD i false=true <-> Rc al (·.f) (·.t) (·=0) i):=by
 obtain ⟨h1,h2,h3⟩:=bY hv
 refine HT.of rfl afp (aZ rfl) ?_
 unfold c52
 simp only [aA,Nat.reduceAdd,dE,fB]
 refine zF ⟨?_⟩
 have hmi:MI al (·.f) (·.t) (·=0) fin.length ((List.replicate fin.length false).set 0 true):=by
  refine ⟨by simp,fun i hi=>?_,fun i hi hS=>?_⟩
  ·rw [bH,vg] at hi
   by_cases e:0=i
   ·exact .on e.symm
   ·rw [if_neg e,JK] at hi
    split at hi<;>simp at hi
  ·subst hS;simp [hi]
 refine aI [1,3,4] (fun s:Bool×List Bool=>MI al (·.f) (·.t) (·=0) fin.length s.2/\(s.1=false->∀i,s.2.getD i false=true <-> Rc al (·.f) (·.t) (·=0) i))
  (fun s=>⟨[(1,.pref 0 [] 0),(3,.ref 1 [] 1 0 fin.length),(4,.bool s.1)],[(0,.optr [.sl fin.length (HL.bools fin),.sl al.length (recs aC al)]),(1,.osl 1 fin.length (HL.bools s.2))],2⟩)
  (fun s=>cf s.2+if s.1 then 1 else 0) (true,(List.replicate fin.length false).set 0 true) ⟨hmi,by simp⟩ rfl ?_
 clear hmi
 rintro ⟨ag,rb0⟩ ⟨hmi,hdone⟩
 simp only at hmi hdone ⊢
 cases ag with
 | false =>
  refine zF ⟨?_⟩
  refine ae ?_
  exact ⟨rb0,rfl,hmi.len,hdone rfl⟩
 | true =>
  refine zF ⟨?_⟩
  refine aI [1,3,4,5] (fun s:Nat×Bool×List Bool=>s.1<=al.length/\MJ al (·.f) (·.t) (·=0) fin.length rb0 s.1 s.2.1 s.2.2)
   (fun s=>⟨[(1,.pref 0 [] 0),(3,.ref 1 [] 1 0 fin.length),(4,.bool s.2.1),(5,.int .i64 s.1)],[(0,.optr [.sl fin.length (HL.bools fin),.sl al.length (recs aC al)]),(1,.osl 1 fin.length (HL.bools s.2.2))],2⟩)
   (fun s=>al.length - s.1) (0,false,rb0) ⟨by simp,.start hmi⟩ rfl ?_
  rintro ⟨k,ag,rb⟩ ⟨hk,hmj⟩
  simp only at hk hmj ⊢
  have hrl:=hmj.mi.len
  by_cases hkl:k<al.length
  ·have ha:=cu hv (fJ hkl)
   have hsk:=hmj.skip hkl
   have had:=hmj.add hkl (by show (al.getD k default).t.toNat<fin.length;omega)
   cases b1:rb.getD (al.getD k default).f.toNat false with
   | false =>
    refine eH @b1 ⟨?_⟩
    exact aP [1,3,4,5] (k+1,ag,rb) ⟨hkl,hsk (fun h=>by rw [b1] at h;cases h)⟩ dL rfl
   | true =>
    cases b2:rb.getD (al.getD k default).t.toNat false with
    | true =>
     refine eH (zA @b1 (zA @b2 @Bool.not_true)) ⟨?_⟩
     exact aP [1,3,4,5] (k+1,ag,rb) ⟨hkl,hsk (fun _=>b2)⟩ dL rfl
    | false =>
     refine eH (zA @b1 (zA @b2 @Bool.not_false)) ⟨?_⟩
     exact aP [1,3,4,5] (k+1,true,rb.set (al.getD k default).t.toNat true) ⟨hkl,had b1 b2⟩ dL rfl
  ·obtain rfl:k=al.length:=by omega
   have hls:=hmj.less
   refine zF ⟨?_⟩
   exact aP [1,3,4] (ag,rb) ⟨hmj.mi,fun e=>by simp only at e;subst e;exact hmj.done (fun i hi=>by subst hi;omega)⟩ (by simp only [if_true];omega) rfl
theorem PX (fin:List Bool) (al:List A) (hv:okF fin al=true):HT Try.prog 53 [.agg (dE fin al)] (fun r=>∃rb,r=.osl 1 fin.length (HL.bools rb)/\rb.length=fin.length/\∀i,rb.getD i false=true <-> Rc al (·.t) (·.f) (fun i=>fin.getD i false=true) i):=by
 obtain ⟨h1,h2,h3⟩:=bY hv
 refine HT.of rfl agl (aZ rfl) ?_
 unfold c53
 simp only [aA,Nat.reduceAdd,dE,fB]
 refine zF ⟨?_⟩
 have hmi:MI al (·.t) (·.f) (fun i=>fin.getD i false=true) fin.length fin:=by
  exact ⟨rfl,fun i hi=>.on hi,fun i _ hS=>hS⟩
 refine aI [1,3,4] (fun s:Bool×List Bool=>MI al (·.t) (·.f) (fun i=>fin.getD i false=true) fin.length s.2/\(s.1=false->∀i,s.2.getD i false=true <-> Rc al (·.t) (·.f) (fun i=>fin.getD i false=true) i))
  (fun s=>⟨[(1,.pref 0 [] 0),(3,.ref 1 [] 1 0 fin.length),(4,.bool s.1)],[(0,.optr [.sl fin.length (HL.bools fin),.sl al.length (recs aC al)]),(1,.osl 1 fin.length (HL.bools s.2))],2⟩)
  (fun s=>cf s.2+if s.1 then 1 else 0) (true,fin) ⟨hmi,by simp⟩ rfl ?_
 clear hmi
 rintro ⟨ag,rb0⟩ ⟨hmi,hdone⟩
 simp only at hmi hdone ⊢
 cases ag with
 | false =>
  refine zF ⟨?_⟩
  refine ae ?_
  exact ⟨rb0,rfl,hmi.len,hdone rfl⟩
 | true =>
  refine zF ⟨?_⟩
  refine aI [1,3,4,5] (fun s:Nat×Bool×List Bool=>s.1<=al.length/\MJ al (·.t) (·.f) (fun i=>fin.getD i false=true) fin.length rb0 s.1 s.2.1 s.2.2)
   (fun s=>⟨[(1,.pref 0 [] 0),(3,.ref 1 [] 1 0 fin.length),(4,.bool s.2.1),(5,.int .i64 s.1)],[(0,.optr [.sl fin.length (HL.bools fin),.sl al.length (recs aC al)]),(1,.osl 1 fin.length (HL.bools s.2.2))],2⟩)
   (fun s=>al.length - s.1) (0,false,rb0) ⟨by simp,.start hmi⟩ rfl ?_
  rintro ⟨k,ag,rb⟩ ⟨hk,hmj⟩
  simp only at hk hmj ⊢
  have hrl:=hmj.mi.len
  by_cases hkl:k<al.length
  ·have ha:=cu hv (fJ hkl)
   have hsk:=hmj.skip hkl
   have had:=hmj.add hkl (by show (al.getD k default).f.toNat<fin.length;omega)
   cases b1:rb.getD (al.getD k default).t.toNat false with
   | false =>
    refine eH @b1 ⟨?_⟩
    exact aP [1,3,4,5] (k+1,ag,rb) ⟨hkl,hsk (fun h=>by rw [b1] at h;cases h)⟩ dL rfl
   | true =>
    cases b2:rb.getD (al.getD k default).f.toNat false with
    | true =>
     refine eH (zA @b1 (zA @b2 @Bool.not_true)) ⟨?_⟩
     exact aP [1,3,4,5] (k+1,ag,rb) ⟨hkl,hsk (fun _=>b2)⟩ dL rfl
    | false =>
     refine eH (zA @b1 (zA @b2 @Bool.not_false)) ⟨?_⟩
     exact aP [1,3,4,5] (k+1,true,rb.set (al.getD k default).f.toNat true) ⟨hkl,had b1 b2⟩ dL rfl
  ·obtain rfl:k=al.length:=by omega
   have hls:=hmj.less
   refine zF ⟨?_⟩
   exact aP [1,3,4] (ag,rb) ⟨hmj.mi,fun e=>by simp only at e;subst e;exact hmj.done (fun i hi=>by rcases iE i fin.length with h|h;exact h;rw [bH,qg h] at hi;cases hi)⟩ (by simp only [if_true];omega) rfl
end Go.Proofs.Ytlbdmpjnmfmnfaa
end
