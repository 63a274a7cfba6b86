import Derived.Test.YtlbdmpjnmfmnfaaHlLg
import Derived.Test.YtlbdmpjnmfmnfaaHlFi
import Derived.Test.YtlbdmpjnmfmnfaaHlLo
import Derived.Test.YtlbdmpjnmfmnfaaFw4
section
set_option linter.unusedSimpArgs false
set_option linter.unusedVariables false
namespace Go.Proofs.Ytlbdmpjnmfmnfaa
set_option linter.unusedSimpArgs false
set_option linter.unnecessarySimpa false
open Go.RowKit Go.HL Go.FS
theorem Bc (p q:Int):HT Try.prog 76 [.int .i64 p,.int .i64 q] (fun r=>r=.agg (aC ⟨p,-1,-1,q⟩)):=by
 refine HT.ofC rfl aaC [4] rfl (Nat.le_of_ble_eq_true rfl) ?_
 unfold c76
 simp only [aY,Nat.reduceAdd]
 repeat (first|refine ah ?_|refine af ?_|refine ak ?_|refine ae ?_|refine dG ?_|refine bI dZ ?_|refine bY ?_)
 refine ay ?_
 exact ⟨_,_,rfl,rfl,rfl⟩
theorem DV (x d:Int) (h0 : -1000000<=x) (h1:x<=1000000) (h2:0<=d) (h3:d<=1000000):HT Try.prog 104 [.int .i64 x,.ptr [.int .i64 d] 0] (fun r=>r=.int .i64 (x+d)):=by
 refine HT.of rfl VG (Nat.le_of_ble_eq_true rfl) ?_
 unfold Wn
 simp only [aY,Nat.reduceAdd]
 repeat (first|refine ah ?_|refine dP ?_|refine af ?_|refine bM ?_|refine ak ?_|refine ae ?_)
 refine ay ?_
 rfl
theorem wL (d:Int):HT Try.prog 77 [.int .i64 d] (fun r=>r=.fn 104 [.optr [.int .i64 d]]):=by
 refine HT.of rfl aai (Nat.le_of_ble_eq_true rfl) ?_
 unfold c77
 simp only [aY,Nat.reduceAdd]
 repeat (first|refine ak ?_|refine ae ?_|refine dX ?_)
 refine V3 (v:=.nilf) rfl rfl ?_
 repeat (first|refine af ?_|refine ak ?_|refine ae ?_)
 refine Aq bH ?_
 repeat (first|refine ah ?_|refine af ?_)
 refine ay ?_
 rfl
def yE (l:List (List Bool×List A)):Nat:=(l.map fun p=>p.1.length).sum
def xZ (l:List (List Bool×List A)):Nat:=(l.map fun p=>p.2.length).sum
def zX (l:List (List Bool×List A)):Bool:=l.all (fun p=>okF p.1 p.2)&&decide (yE l<=2000/\xZ l<=6000)
theorem Nb {l:List (List Bool×List A)} {i:Nat} (h:i<l.length):yE (l.take (i+1))=yE (l.take i)+(l.getD i default).1.length/\xZ (l.take (i+1))=xZ (l.take i)+(l.getD i default).2.length:=by
 unfold yE xZ
 rw [List.take_add_one,List.getElem?_eq_getElem h,List.getD_eq_getElem?_getD,List.getElem?_eq_getElem h]
 simp only [List.map_append,List.sum_append,Option.toList_some,List.map_cons,List.map_nil,List.sum_cons,List.sum_nil,Option.getD_some,Nat.add_zero,and_self]
set_option maxHeartbeats 4000000 in
theorem vX (l:List (List Bool×List A)) (hl:l.length<=10) (hb:∀p∈l,p.1.length<=1000000000/\p.2.length<=1000000000):HT Try.prog 73 [.sl l.length (recs fC l)] (fun r=>r=.bool (zX l)):=by
 refine HT.of rfl aar (Nat.le_of_ble_eq_true rfl) ?_
 unfold c73
 simp only [aY,Nat.reduceAdd]
 repeat (first|refine ah ?_|refine af ?_|refine dm (by rfl) ?_|refine ak ?_|refine ae ?_|refine aK ?_)
 refine dn [3,4,7,8,9] (fun i:Nat=>i<=l.length/\(l.take i).all (fun p=>okF p.1 p.2)=true/\yE (l.take i)<=i*2048/\xZ (l.take i)<=i*8192)
  (fun i=>⟨[(3,.int .i64 (yE (l.take i):Nat)),(4,.int .i64 (xZ (l.take i):Nat)),(7,.sl l.length (recs fC l)),(8,.int .i64 l.length),(9,.int .i64 i)],[],0⟩)
  (fun i=>l.length - i) 0 ⟨by omega,by simp,by simp [yE],by simp [xZ]⟩ rfl ?_
 rintro i ⟨hi,hv,hs,ha⟩
 by_cases hil:i<l.length
 ·obtain ⟨e1,e2⟩:=Nb hil
  have hm:l.getD i default∈l:=by rw [List.getD_eq_getElem?_getD,List.getElem?_eq_getElem hil];exact List.getElem_mem hil
  have hbi:=hb _ hm
  have hst:(l.take (i+1)).all (fun p=>okF p.1 p.2)=okF (l.getD i default).1 (l.getD i default).2:=by
   rw [List.take_add_one,List.all_append,hv,Bool.true_and]
   simp [hil]
  have hvd:=jF (l.getD i default).1 (l.getD i default).2 (by omega) (by omega)
  simp only [iF,jJ] at hvd
  repeat (first|refine bu ?_|refine af ?_|refine aF ?_|refine ax ?_|refine ak ?_|refine ae ?_|refine aK ?_|refine aI ?_|refine bG ?_|refine gq ?_|refine dH ?_|refine bI dZ ?_)
  refine bT bH dw (hvd) ?_
  rintro _ rfl
  cases hok:okF (l.getD i default).1 (l.getD i default).2 with
  | false =>
   have hf:zX l=false:=by
    unfold zX
    rw [Bool.and_eq_false_iff]
    exact .inl (List.all_eq_false.2 ⟨_,hm,by rw [hok];simp⟩)
   refine ⟨bJ,_,_,_,_,_,gY,(by decide),bF,?_⟩
   repeat (first|refine ah ?_|refine af ?_|refine ax ?_|refine ak ?_|refine ae ?_|refine jC (by rfl) ?_)
   refine ay ?_
   rw [hf];rfl
  | true =>
   obtain ⟨h1,h2,h3⟩:=gm hok
   refine ⟨bJ,_,_,_,_,_,gY,(by decide),bF,?_⟩
   repeat (first|refine ah ?_|refine aW ?_|refine af ?_|refine bM ?_|refine dm (by rfl) ?_|refine au ?_|refine ak ?_|refine ae ?_|refine gV ?_|refine aI ?_|refine iU (by rfl) ?_|refine aH ?_)
   exact dS [3,4,7,8,9] (i+1) ⟨hil,by rw [hst];exact hok,by rw [e1];omega,by rw [e2];omega⟩ (by omega) (by rw [e1,e2];rfl)
 ·have e0:l.take i=l:=List.take_of_length_le (by omega)
  rw [e0] at hv hs ha ⊢
  by_cases c1:yE l<=2000
  ·by_cases c2:xZ l<=6000
   ·repeat (first|refine ah ?_|refine aT ?_|refine af ?_|refine aF ?_|refine aU ?_|refine bZ (by rfl) ?_|refine au ?_|refine ak ?_|refine ae ?_|refine ug (by rfl) (by rfl) jU ?_)
    refine ay ?_
    simp [dE,zX,hv,c1,c2]
   ·repeat (first|refine ah ?_|refine aT ?_|refine af ?_|refine aF ?_|refine aU ?_|refine bZ (by rfl) ?_|refine au ?_|refine ak ?_|refine ae ?_|refine ug (by rfl) (by rfl) jU ?_)
    refine ay ?_
    simp [dE,zX,hv,c1,c2]
  ·repeat (first|refine ah ?_|refine dI ?_|refine af ?_|refine aF ?_|refine aS ?_|refine bZ (by rfl) ?_|refine au ?_|refine ak ?_|refine ae ?_|refine ug (by rfl) (by rfl) jU ?_)
   refine ay ?_
   simp [dE,zX,hv,c1]
end Go.Proofs.Ytlbdmpjnmfmnfaa
end
section
set_option linter.unusedSimpArgs false
set_option linter.unusedVariables false
namespace Go.Proofs.Ytlbdmpjnmfmnfaa
open Go.RowKit Go.HL Go.FS
inductive Rc (al:List A) (p q:A->Int) (S:Nat->Prop):Nat->Prop
 | on {i:Nat}:S i->Rc al p q S i
 | step {a:A}:a∈al->Rc al p q S (p a).toNat->Rc al p q S (q a).toNat
def cf (rb:List Bool):Nat:=(rb.filter fun b=>!b).length
section
variable {al:List A} {p q:A->Int} {S:Nat->Prop}
structure MI (al:List A) (p q:A->Int) (S:Nat->Prop) (n:Nat) (rb:List Bool):Prop where
 len:rb.length=n
 sound:∀i,rb.getD i false=true->Rc al p q S i
 base:∀i,i<n->S i->rb.getD i false=true
structure MJ (al:List A) (p q:A->Int) (S:Nat->Prop) (n:Nat) (rb0:List Bool) (k:Nat) (ag:Bool) (rb:List Bool):Prop where
 mi:MI al p q S n rb
 no:ag=false->rb=rb0/\∀a∈al.take k,rb.getD (p a).toNat false=true->rb.getD (q a).toNat false=true
 less:cf rb+(if ag then 1 else 0)<=cf rb0
theorem MJ.start {n:Nat} {rb:List Bool} (h:MI al p q S n rb):MJ al p q S n rb 0 false rb:=⟨h,fun _=>⟨rfl,by simp⟩,by simp⟩
theorem MJ.skip {n k:Nat} {rb0 rb:List Bool} {ag:Bool} (h:MJ al p q S n rb0 k ag rb) (hk:k<al.length) (hs:rb.getD (p (al.getD k default)).toNat false=true->rb.getD (q (al.getD k default)).toNat false=true):MJ al p q S n rb0 (k+1) ag rb:=by
 refine ⟨h.mi,fun ha=>⟨(h.no ha).1,fun a hm=>?_⟩,h.less⟩
 rw [dC hk] at hm
 rcases List.mem_append.1 hm with hm|hm
 ·exact (h.no ha).2 a hm
 ·simp only [List.mem_singleton] at hm;subst hm;exact hs
theorem MJ.done {n:Nat} {rb0 rb:List Bool} (h:MJ al p q S n rb0 al.length false rb) (hS:∀i,S i->i<n) (i:Nat):rb.getD i false=true <-> Rc al p q S i:=by
 refine ⟨h.mi.sound i,fun hr=>?_⟩
 induction hr with
 | on hs=>exact h.mi.base _ (hS _ hs) hs
 | step ha _ ih=>exact (h.no rfl).2 _ (by rw [List.take_length];exact ha) ih
end
attribute [go_sem] List.length_replicate
end Go.Proofs.Ytlbdmpjnmfmnfaa
end
section
set_option linter.unusedSimpArgs false
set_option linter.unusedVariables false
namespace Go.Proofs.Ytlbdmpjnmfmnfaa
open Go.RowKit Go.HL Go.FS
inductive Rn (nx:Nat->List Int) (L0:List Int):Nat->Prop
 | on {j:Int}:j∈L0->Rn nx L0 j.toNat
 | step {i:Nat} {j:Int}:Rn nx L0 i->j∈nx i->Rn nx L0 j.toNat
structure RB (nx:Nat->List Int) (L0:List Int) (n B:Nat) (rb:List Bool) (L:List Int):Prop where
 len:rb.length=n
 inr:∀j∈L,0<=j/\j<n
 snd1:∀i,rb.getD i false=true->Rn nx L0 i
 snd2:∀j∈L,Rn nx L0 j.toNat
 base:∀j∈L0,rb.getD j.toNat false=true\/j∈L
 cl:∀i,rb.getD i false=true->∀j∈nx i,rb.getD j.toNat false=true\/j∈L
 few:L.length+cf rb*B<=L0.length+n*B
section
variable {nx:Nat->List Int} {L0:List Int} {n B:Nat}
theorem OC (n:Nat):cf (List.replicate n false)=n:=by simp [cf]
theorem RB.start (h:∀j∈L0,0<=j/\j<n):RB nx L0 n B (List.replicate n false) L0:=by
 have h0:∀i,(List.replicate n false).getD i false=false:=fun i=>by
  rw [List.getD_eq_getElem?_getD,List.getElem?_replicate];split<;>rfl
 exact ⟨by simp,h,fun i hi=>(by rw [h0] at hi;cases hi),fun j hj=>.on hj,fun j hj=>.inr hj,fun i hi=>(by rw [h0] at hi;cases hi),by rw [OC];exact Nat.le_refl _⟩
theorem RB.skip {rb:List Bool} {L:List Int} {j:Int} (h:RB nx L0 n B rb (L++[j])) (hj:rb.getD j.toNat false=true):RB nx L0 n B rb L:=by
 have hd:∀x,(rb.getD x.toNat false=true\/x∈L++[j])->rb.getD x.toNat false=true\/x∈L:=fun x hx=>by
  rcases hx with hx|hx
  ·exact .inl hx
  ·rcases List.mem_append.1 hx with hx|hx
   ·exact .inr hx
   ·simp only [List.mem_singleton] at hx;subst hx;exact .inl hj
 exact ⟨h.len,fun x hx=>h.inr x (by simp [hx]),h.snd1,fun x hx=>h.snd2 x (by simp [hx]),fun x hx=>hd x (h.base x hx),fun i hi x hx=>hd x (h.cl i hi x hx),by
  have:=h.few;rw [List.length_append] at this;omega⟩
theorem RB.done {rb:List Bool} (h:RB nx L0 n B rb []) (i:Nat):rb.getD i false=true <-> Rn nx L0 i:=by
 refine ⟨h.snd1 i,fun hr=>?_⟩
 induction hr with
 | on hj=>rcases h.base _ hj with h|h;exact h;cases h
 | step _ hj ih=>rcases h.cl _ ih _ hj with h|h;exact h;cases h
end
end Go.Proofs.Ytlbdmpjnmfmnfaa
end
section
set_option linter.unusedSimpArgs false
set_option linter.unusedVariables false
namespace Go.Proofs.Ytlbdmpjnmfmnfaa
open Go.RowKit Go.HL Go.FS
def cnt (k:Nat->Bool) (i:Nat):Nat:=((List.range i).filter k).length
section
variable {k:Nat->Bool} {n i:Nat} {fin:List Bool}
end
end Go.Proofs.Ytlbdmpjnmfmnfaa
end
section
set_option linter.unusedSimpArgs false
set_option linter.unusedVariables false
namespace Go.Proofs.Ytlbdmpjnmfmnfaa
open Go.RowKit Go.HL Go.FS
def iO (ll:List (List Int)):List HV:=ll.map fun l=>.osl 1 l.length (HL.ints l)
theorem X4 (n:Nat):(List.replicate n [HV.osl 1 0 []]).flatten=iO (List.replicate n []):=by
 induction n with
 | zero=>rfl
 | succ n ih=>rw [List.replicate_succ,List.flatten_cons,ih];rfl
attribute [go_sem] X4
end Go.Proofs.Ytlbdmpjnmfmnfaa
end
