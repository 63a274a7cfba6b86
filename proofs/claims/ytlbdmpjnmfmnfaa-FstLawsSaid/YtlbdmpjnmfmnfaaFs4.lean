import Derived.Test.YtlbdmpjnmfmnfaaHlLg
import Derived.Test.YtlbdmpjnmfmnfaaHlFi
import Derived.Test.YtlbdmpjnmfmnfaaHlLo
import Derived.Test.YtlbdmpjnmfmnfaaFsQ
import Derived.Test.YtlbdmpjnmfmnfaaFsV
section
set_option linter.unusedSimpArgs false
set_option linter.unusedVariables false
namespace Go.Proofs.Ytlbdmpjnmfmnfaa
set_option linter.unusedSimpArgs false
set_option linter.unnecessarySimpa false
open Go.RowKit Go.HL Go.FS
theorem vk (p q:Int):HT Try.prog 76 [.int .i64 p,.int .i64 q] (fun r=>r=.agg (aC ⟨p,-1,-1,q⟩)):=by
 refine HT.ofC rfl aer [4] rfl (Nat.le_of_ble_eq_true rfl) ?_
 unfold c76
 simp only [aY,Nat.reduceAdd]
 repeat (first|refine ah ?_|refine af ?_|refine ak ?_|refine ae ?_|refine dK ?_|refine bP eH ?_|refine di ?_)
 refine ay ?_
 exact ⟨_,_,rfl,rfl,rfl⟩
theorem F5 (x d:Int) (h0 : -1000000<=x) (h1:x<=1000000) (h2:0<=d) (h3:d<=1000000):HT Try.prog 104 [.int .i64 x,.ptr [.int .i64 d] 0] (fun r=>r=.int .i64 (x+d)):=by
 refine HT.of rfl aaB (Nat.le_of_ble_eq_true rfl) ?_
 unfold aah
 simp only [aY,Nat.reduceAdd]
 repeat (first|refine ah ?_|refine bZ ?_|refine af ?_|refine bH ?_|refine ak ?_|refine ae ?_)
 refine ay ?_
 rfl
theorem vZ (d:Int):HT Try.prog 77 [.int .i64 d] (fun r=>r=.fn 104 [.optr [.int .i64 d]]):=by
 refine HT.of rfl aeh (Nat.le_of_ble_eq_true rfl) ?_
 unfold c77
 simp only [aY,Nat.reduceAdd]
 repeat (first|refine ak ?_|refine ae ?_|refine dU ?_)
 refine abT (v:=.nilf) rfl rfl ?_
 repeat (first|refine af ?_|refine ak ?_|refine ae ?_)
 refine wG bz ?_
 repeat (first|refine ah ?_|refine af ?_)
 refine ay ?_
 rfl
def xN (l:List (List Bool×List A)):Nat:=(l.map fun p=>p.1.length).sum
def xO (l:List (List Bool×List A)):Nat:=(l.map fun p=>p.2.length).sum
def pU (l:List (List Bool×List A)):Bool:=l.all (fun p=>okF p.1 p.2)&&decide (xN l<=2000/\xO l<=6000)
theorem N9 {l:List (List Bool×List A)} {i:Nat} (h:i<l.length):xN (l.take (i+1))=xN (l.take i)+(l.getD i default).1.length/\xO (l.take (i+1))=xO (l.take i)+(l.getD i default).2.length:=by
 unfold xN xO
 rw [List.take_add_one,List.getElem?_eq_getElem h,List.getD_eq_getElem?_getD,List.getElem?_eq_getElem h]
 simp only [List.map_append,List.sum_append,Option.toList_some,List.map_cons,List.map_nil,List.sum_cons,List.sum_nil,Option.getD_some,Nat.add_zero,and_self]
set_option maxHeartbeats 4000000 in
theorem qP (l:List (List Bool×List A)) (hl:l.length<=10) (hb:∀p∈l,p.1.length<=1000000000/\p.2.length<=1000000000):HT Try.prog 73 [.sl l.length (recs fC l)] (fun r=>r=.bool (pU l)):=by
 refine HT.of rfl adR (Nat.le_of_ble_eq_true rfl) ?_
 unfold c73
 simp only [aY,Nat.reduceAdd]
 repeat (first|refine ah ?_|refine af ?_|refine aQ ?_|refine ak ?_|refine ae ?_|refine aB ?_)
 refine cu [3,4,7,8,9] (fun i:Nat=>i<=l.length/\(l.take i).all (fun p=>okF p.1 p.2)=true/\xN (l.take i)<=i*2048/\xO (l.take i)<=i*8192)
  (fun i=>⟨[(3,.int .i64 (xN (l.take i):Nat)),(4,.int .i64 (xO (l.take i):Nat)),(7,.sl l.length (recs fC l)),(8,.int .i64 l.length),(9,.int .i64 i)],[],0⟩)
  (fun i=>l.length - i) 0 ⟨by omega,by simp,by simp [xN],by simp [xO]⟩ rfl ?_
 rintro i ⟨hi,hv,hs,ha⟩
 by_cases hil:i<l.length
 ·obtain ⟨e1,e2⟩:=N9 hil
  have hm:l.getD i default∈l:=by rw [List.getD_eq_getElem?_getD,List.getElem?_eq_getElem hil];exact List.getElem_mem hil
  have hbi:=hb _ hm
  have hst:(l.take (i+1)).all (fun p=>okF p.1 p.2)=okF (l.getD i default).1 (l.getD i default).2:=by
   rw [List.take_add_one,List.all_append,hv,Bool.true_and]
   simp [hil]
  have hvd:=o9 (l.getD i default).1 (l.getD i default).2 (by omega) (by omega)
  simp only [iC,jX] at hvd
  repeat (first|refine aU ?_|refine af ?_|refine az ?_|refine ax ?_|refine ak ?_|refine ae ?_|refine aB ?_|refine aF ?_|refine bn ?_|refine fJ ?_|refine cO ?_|refine bP eH ?_)
  refine bY bz bW (hvd) ?_
  rintro _ rfl
  cases hok:okF (l.getD i default).1 (l.getD i default).2 with
  | false =>
   have hf:pU l=false:=by
    unfold pU
    rw [Bool.and_eq_false_iff]
    exact .inl (List.all_eq_false.2 ⟨_,hm,by rw [hok];simp⟩)
   refine ⟨bG,_,_,_,_,_,fU,(by decide),bu,?_⟩
   repeat (first|refine ah ?_|refine af ?_|refine ax ?_|refine ak ?_|refine ae ?_|refine iI (by rfl) ?_)
   refine ay ?_
   rw [hf];rfl
  | true =>
   obtain ⟨h1,h2,h3⟩:=dR hok
   refine ⟨bG,_,_,_,_,_,fU,(by decide),bu,?_⟩
   repeat (first|refine ah ?_|refine aZ ?_|refine af ?_|refine bH ?_|refine aQ ?_|refine au ?_|refine ak ?_|refine ae ?_|refine fK ?_|refine aF ?_|refine gW (by rfl) ?_|refine aI ?_)
   exact dB [3,4,7,8,9] (i+1) ⟨hil,by rw [hst];exact hok,by rw [e1];omega,by rw [e2];omega⟩ (by omega) (by rw [e1,e2];rfl)
 ·have e0:l.take i=l:=List.take_of_length_le (by omega)
  rw [e0] at hv hs ha ⊢
  by_cases c1:xN l<=2000
  ·by_cases c2:xO l<=6000
   ·repeat (first|refine ah ?_|refine aK ?_|refine af ?_|refine az ?_|refine aS ?_|refine bK (by rfl) ?_|refine au ?_|refine ak ?_|refine ae ?_|refine D5 (by rfl) (by rfl) kC ?_)
    refine ay ?_
    simp [dG,pU,hv,c1,c2]
   ·repeat (first|refine ah ?_|refine aK ?_|refine af ?_|refine az ?_|refine aS ?_|refine bK (by rfl) ?_|refine au ?_|refine ak ?_|refine ae ?_|refine D5 (by rfl) (by rfl) kC ?_)
    refine ay ?_
    simp [dG,pU,hv,c1,c2]
  ·repeat (first|refine ah ?_|refine dH ?_|refine af ?_|refine az ?_|refine aO ?_|refine bK (by rfl) ?_|refine au ?_|refine ak ?_|refine ae ?_|refine D5 (by rfl) (by rfl) kC ?_)
   refine ay ?_
   simp [dG,pU,hv,c1]
end Go.Proofs.Ytlbdmpjnmfmnfaa
end
section
set_option linter.unusedSimpArgs false
set_option linter.unusedVariables false
namespace Go.Proofs.Ytlbdmpjnmfmnfaa
open Go.RowKit Go.HL Go.FS
inductive Rc (al:List A) (p q:A->Int) (S:Nat->Prop):Nat->Prop
 | on {i:Nat}:S i->Rc al p q S i
 | step {a:A}:a∈al->Rc al p q S (p a).toNat->Rc al p q S (q a).toNat
def cf (rb:List Bool):Nat:=(rb.filter fun b=>!b).length
theorem Gx:∀ (rb:List Bool) (i:Nat),i<rb.length->rb.getD i false=false->cf (rb.set i true)+1=cf rb
 | [],i,h,_=>by simp at h
 | b::rb,0,_,h=>by
  simp only [List.getD_cons_zero] at h
  subst h
  simp [cf]
 | b::rb,i+1,h,he=>by
  have:=Gx rb i (by simpa using h) (by simpa using he)
  unfold cf at this ⊢
  cases b<;>simp_all
section
variable {al:List A} {p q:A->Int} {S:Nat->Prop}
structure MI (al:List A) (p q:A->Int) (S:Nat->Prop) (n:Nat) (rb:List Bool):Prop where
 len:rb.length=n
 sound:∀i,rb.getD i false=true->Rc al p q S i
 base:∀i,i<n->S i->rb.getD i false=true
structure MJ (al:List A) (p q:A->Int) (S:Nat->Prop) (n:Nat) (rb0:List Bool) (k:Nat) (ag:Bool) (rb:List Bool):Prop where
 mi:MI al p q S n rb
 no:ag=false->rb=rb0/\∀a∈al.take k,rb.getD (p a).toNat false=true->rb.getD (q a).toNat false=true
 less:cf rb+(if ag then 1 else 0)<=cf rb0
theorem MJ.start {n:Nat} {rb:List Bool} (h:MI al p q S n rb):MJ al p q S n rb 0 false rb:=⟨h,fun _=>⟨rfl,by simp⟩,by simp⟩
theorem MJ.skip {n k:Nat} {rb0 rb:List Bool} {ag:Bool} (h:MJ al p q S n rb0 k ag rb) (hk:k<al.length) (hs:rb.getD (p (al.getD k default)).toNat false=true->rb.getD (q (al.getD k default)).toNat false=true):MJ al p q S n rb0 (k+1) ag rb:=by
 refine ⟨h.mi,fun ha=>⟨(h.no ha).1,fun a hm=>?_⟩,h.less⟩
 rw [dw hk] at hm
 rcases List.mem_append.1 hm with hm|hm
 ·exact (h.no ha).2 a hm
 ·simp only [List.mem_singleton] at hm;subst hm;exact hs
theorem MJ.done {n:Nat} {rb0 rb:List Bool} (h:MJ al p q S n rb0 al.length false rb) (hS:∀i,S i->i<n) (i:Nat):rb.getD i false=true <-> Rc al p q S i:=by
 refine ⟨h.mi.sound i,fun hr=>?_⟩
 induction hr with
 | on hs=>exact h.mi.base _ (hS _ hs) hs
 | step ha _ ih=>exact (h.no rfl).2 _ (by rw [List.take_length];exact ha) ih
end
attribute [go_sem] List.length_replicate
end Go.Proofs.Ytlbdmpjnmfmnfaa
end
section
set_option linter.unusedSimpArgs false
set_option linter.unusedVariables false
namespace Go.Proofs.Ytlbdmpjnmfmnfaa
open Go.RowKit Go.HL Go.FS
inductive Rn (nx:Nat->List Int) (L0:List Int):Nat->Prop
 | on {j:Int}:j∈L0->Rn nx L0 j.toNat
 | step {i:Nat} {j:Int}:Rn nx L0 i->j∈nx i->Rn nx L0 j.toNat
structure RB (nx:Nat->List Int) (L0:List Int) (n B:Nat) (rb:List Bool) (L:List Int):Prop where
 len:rb.length=n
 inr:∀j∈L,0<=j/\j<n
 snd1:∀i,rb.getD i false=true->Rn nx L0 i
 snd2:∀j∈L,Rn nx L0 j.toNat
 base:∀j∈L0,rb.getD j.toNat false=true\/j∈L
 cl:∀i,rb.getD i false=true->∀j∈nx i,rb.getD j.toNat false=true\/j∈L
 few:L.length+cf rb*B<=L0.length+n*B
section
variable {nx:Nat->List Int} {L0:List Int} {n B:Nat}
theorem QQ (n:Nat):cf (List.replicate n false)=n:=by simp [cf]
theorem RB.start (h:∀j∈L0,0<=j/\j<n):RB nx L0 n B (List.replicate n false) L0:=by
 have h0:∀i,(List.replicate n false).getD i false=false:=fun i=>by
  rw [List.getD_eq_getElem?_getD,List.getElem?_replicate];split<;>rfl
 exact ⟨by simp,h,fun i hi=>(by rw [h0] at hi;cases hi),fun j hj=>.on hj,fun j hj=>.inr hj,fun i hi=>(by rw [h0] at hi;cases hi),by rw [QQ];exact Nat.le_refl _⟩
theorem RB.skip {rb:List Bool} {L:List Int} {j:Int} (h:RB nx L0 n B rb (L++[j])) (hj:rb.getD j.toNat false=true):RB nx L0 n B rb L:=by
 have hd:∀x,(rb.getD x.toNat false=true\/x∈L++[j])->rb.getD x.toNat false=true\/x∈L:=fun x hx=>by
  rcases hx with hx|hx
  ·exact .inl hx
  ·rcases List.mem_append.1 hx with hx|hx
   ·exact .inr hx
   ·simp only [List.mem_singleton] at hx;subst hx;exact .inl hj
 exact ⟨h.len,fun x hx=>h.inr x (by simp [hx]),h.snd1,fun x hx=>h.snd2 x (by simp [hx]),fun x hx=>hd x (h.base x hx),fun i hi x hx=>hd x (h.cl i hi x hx),by
  have:=h.few;rw [List.length_append] at this;omega⟩
theorem Ih {rb:List Bool} {i k:Nat} (hi:i<rb.length):(rb.set i true).getD k false=if i=k then true else rb.getD k false:=by
 rw [List.getD_eq_getElem?_getD,List.getElem?_set]
 by_cases e:i=k
 ·subst e;simp [hi]
 ·simp [e]
theorem RB.add {rb:List Bool} {L:List Int} {j:Int} (h:RB nx L0 n B rb (L++[j])) (hj:rb.getD j.toNat false=false) (hin:∀x∈nx j.toNat,0<=x/\x<n) (hB:(nx j.toNat).length<=B):RB nx L0 n B (rb.set j.toNat true) (L++nx j.toNat):=by
 have hjn:=h.inr j (by simp)
 have hjl:j.toNat<rb.length:=by rw [h.len];omega
 have hg:=fun k=>Ih (k:=k) hjl
 have hd:∀x,(rb.getD x.toNat false=true\/x∈L++[j])->(rb.set j.toNat true).getD x.toNat false=true\/x∈L++nx j.toNat:=fun x hx=>by
  rcases hx with hx|hx
  ·left;rw [hg];split;rfl;exact hx
  ·rcases List.mem_append.1 hx with hx|hx
   ·exact .inr (by simp [hx])
   ·simp only [List.mem_singleton] at hx;subst hx;left;rw [hg,if_pos rfl]
 have hc:=Gx rb _ hjl hj
 refine ⟨by rw [List.length_set];exact h.len,fun x hx=>?_,fun i hi=>?_,fun x hx=>?_,fun x hx=>hd x (h.base x hx),fun i hi x hx=>?_,?_⟩
 ·rcases List.mem_append.1 hx with hx|hx
  ·exact h.inr x (by simp [hx])
  ·exact hin x hx
 ·rw [hg] at hi
  by_cases e:j.toNat=i
  ·rw [<- e];exact h.snd2 j (by simp)
  ·rw [if_neg e] at hi;exact h.snd1 i hi
 ·rcases List.mem_append.1 hx with hx|hx
  ·exact h.snd2 x (by simp [hx])
  ·exact .step (h.snd2 j (by simp)) hx
 ·rw [hg] at hi
  by_cases e:j.toNat=i
  ·subst e;exact .inr (by simp [hx])
  ·rw [if_neg e] at hi;exact hd x (h.cl i hi x hx)
 ·have:=h.few
  rw [List.length_append] at this ⊢
  have e:cf rb*B=cf (rb.set j.toNat true)*B+B:=by rw [<- hc,Nat.add_mul,Nat.one_mul]
  simp only [List.length_cons,List.length_nil] at this
  omega
theorem RB.done {rb:List Bool} (h:RB nx L0 n B rb []) (i:Nat):rb.getD i false=true <-> Rn nx L0 i:=by
 refine ⟨h.snd1 i,fun hr=>?_⟩
 induction hr with
 | on hj=>rcases h.base _ hj with h|h;exact h;cases h
 | step _ hj ih=>rcases h.cl _ ih _ hj with h|h;exact h;cases h
end
theorem G9 {l:List Int} {x:Int} {n:Nat} (h:n=l.length):(l++[x]).getD n 0=x:=by subst h;simp
set_option maxHeartbeats 8000000 in
theorem EQ (g:FuncId) (A0:List HV) (n B:Nat) (nx:Nat->List Int) (L0:List Int) (hn:n<=2048) (hB:∀i,i<n->(nx i).length<=B) (hBb:B<=200000) (hl0:L0.length<=200000) (hin:∀i,i<n->∀j∈nx i,0<=j/\j<n) (hL:∀j∈L0,0<=j/\j<n)
  (hg:∀i:Nat,i<n->HT Try.prog g [.int .i64 i,.ptr A0 0] (fun r=>r=.sl (nx i).length (HL.ints (nx i)))) :
  HTM Try.prog 68 [.int .i64 n,.osl 1 L0.length (HL.ints L0),.fn g [.ptr A0 0]] (fun r=>∃rb,r=.osl 1 n (HL.bools rb)/\rb.length=n/\∀i,rb.getD i false=true <-> Rn nx L0 i):=by
 refine HTM.of rfl adA (Nat.le_of_ble_eq_true rfl) (⟨[(0,.int .i64 n),(1,.ref 0 [] 1 0 L0.length),(2,.fn g [.ptr A0 0])],[(0,.osl 1 L0.length (HL.ints L0))],1⟩:St) rfl ?_
 unfold c68
 repeat (first|refine ah ?_|refine af ?_|refine ak ?_|refine ae ?_|refine aB ?_|refine bU ?_|refine qU eH (by rfl) (by omega) aP aP ?_)
 refine cu [1,2,7] (fun s:List Bool×List Int=>RB nx L0 n B s.1 s.2)
  (fun s=>⟨[(1,.ref 0 [] 1 0 s.2.length),(2,.fn g [.ptr A0 0]),(7,.ref 1 [] 1 0 n)],[(0,.osl 1 s.2.length (HL.ints s.2)),(1,.osl 1 n (HL.bools s.1))],2⟩)
  (fun s=>cf s.1*(B+1)+s.2.length) (List.replicate n false,L0) (.start hL) rfl ?_
 rintro ⟨rb,L⟩ hI
 simp only at hI ⊢
 have hrl:=hI.len
 have hfw:=hI.few
 have hnB:n*B<=2048*200000:=Nat.mul_le_mul hn hBb
 rcases List.eq_nil_or_concat L with rfl|⟨L',j,rfl⟩
 ·repeat (first|refine ah ?_|refine af ?_|refine fF (by rfl) ?_|refine bK (by rfl) ?_|refine au ?_|refine ak ?_|refine ae ?_|refine dm ?_)
  refine ay ?_
  exact ⟨rb,rfl,hrl,hI.done⟩
 ·rw [List.concat_eq_append] at hI hfw ⊢
  have hsn:(L'++[j]).length=L'.length+1:=by simp
  have hgv:(L'++[j]).getD L'.length 0=j:=G9 rfl
  have hz:(((L'.length+1:Nat):Int) - 1).toNat=L'.length:=by omega
  have hjr:=hI.inr j (by simp)
  rw [hsn] at hfw ⊢
  have htk:(HL.ints (L'++[j])).take (L'.length*1)=HL.ints L':=by
   rw [Nat.mul_one]
   simp [HL.ints]
  have hgj:=hg j.toNat (by omega)
  rw [Int.toNat_of_nonneg hjr.1] at hgj
  have hnl:=hB j.toNat (by omega)
  have hni:=hin j.toNat (by omega)
  have hjl:j.toNat<rb.length:=by omega
  repeat (first|refine ah ?_|refine gG ?_|refine gJ (by rfl) bV (by (try simp (disch:=omega) only [go_sem,reduceIte,Nat.reduceEqDiff,Nat.reduceAdd,Nat.reduceMul,hz,hgv]);try rfl) aW (by (try simp (disch:=omega) only [go_sem,hz,hgv]);try rfl) aV ?_|refine af ?_|refine fF (by rfl) ?_|refine ax ?_|refine ak ?_|refine ae ?_|refine aB ?_|refine aF ?_|refine yh (by rfl) (by rfl) (by (try simp (disch:=omega) only [go_sem,Int.reduceAdd,Int.reduceSub,Int.reduceMul,hz,hgv]);try rfl) ?_|refine dm ?_|refine Jr (by rfl) (by (try simp only [go_sem,reduceIte,hz,hgv]);try rfl) ?_|refine Ib (by rfl) (by rfl) (by rfl) (by omega) aP eH ?_)
  refine uB 1 [1,2,7,8,29] ⟨[(1,.ref 0 [] 1 0 L'.length),(2,.fn g [.ptr A0 0]),(7,.ref 1 [] 1 0 n),(8,.int .i64 j),(29,.bool (!rb.getD j.toNat false))],[(0,.osl 1 L'.length (HL.ints L')),(1,.osl 1 n (HL.bools rb))],2⟩ rfl rfl (by omega) (HL.ints_flat _) (by decide) (by rw [hz,htk];rfl) ?_
  cases hb:rb.getD j.toNat false with
  | true =>
   simp only [Bool.not_true]
   repeat (first|refine au ?_|refine fK ?_|refine aF ?_)
   exact dB [1,2,7] (rb,L') (hI.skip hb) jh rfl
  | false =>
   simp only [Bool.not_false]
   have hadd:=hI.add hb hni hnl
   have hcf:=Gx rb _ hjl hb
   have hmu:cf rb*(B+1)=cf (rb.set j.toNat true)*(B+1)+(B+1):=by rw [<- hcf,Nat.add_mul,Nat.one_mul]
   repeat (first|refine ah ?_|refine gG ?_|refine af ?_|refine ax ?_|refine ak ?_|refine ae ?_|refine dK ?_)
   refine Dv (by rfl) bz bW (hgj) ?_
   rintro _ rfl
   refine ⟨bG,_,_,_,_,_,fU,(by decide),bu,?_⟩
   generalize nx j.toNat=R at hnl hadd
   have hsr:(L'++R).length=L'.length+R.length:=List.length_append
   repeat (first|refine ah ?_|refine af ?_|refine fK ?_|refine gV ?_)
   exact dB [1,2,7] (rb.set j.toNat true,L'++R) hadd jh (by rw [hsr];rfl)
end Go.Proofs.Ytlbdmpjnmfmnfaa
end
section
set_option linter.unusedSimpArgs false
set_option linter.unusedVariables false
namespace Go.Proofs.Ytlbdmpjnmfmnfaa
open Go.RowKit Go.HL Go.FS
def cnt (k:Nat->Bool) (i:Nat):Nat:=((List.range i).filter k).length
def Ox (k:Nat->Bool) (i:Nat):Int:=if k i then cnt k i else -1
def oZ (k:Nat->Bool) (n i:Nat):List Int:=(List.range n).map fun j=>if j<i then Ox k j else 0
def lL (k:Nat->Bool) (fin:List Bool) (i:Nat):List Bool:=((List.range i).filter k).map fun j=>fin.getD j false
def qG (k:Nat->Bool) (l:List A):List A:=l.filterMap fun a=>if k a.f.toNat&&k a.t.toNat then some ⟨cnt k a.f.toNat,a.i,a.o,cnt k a.t.toNat⟩ else none
section
variable {k:Nat->Bool} {n i:Nat} {fin:List Bool}
theorem DU:(oZ k n i).length=n:=by simp [oZ]
theorem LU:oZ k n 0=List.replicate n 0:=by
 apply List.ext_getElem?
 intro j
 simp only [oZ,List.getElem?_map,List.getElem?_range,List.getElem?_replicate]
 split<;>simp_all
theorem LD (h:i<n):(oZ k n i).set i (Ox k i)=oZ k n (i+1):=by
 apply List.ext_getElem?
 intro j
 rw [List.getElem?_set]
 by_cases hj:j<n
 ·by_cases e:i=j
  ·subst e;simp [oZ,hj]
  ·have h2:(j<i)=(j<i+1):=by apply propext;omega
   simp [oZ,hj,e,h2]
 ·have:¬ i=j:=by omega
  simp [oZ,hj,this]
theorem F7 (h:i<n):(oZ k n n).getD i 0=Ox k i:=by simp [oZ,h]
theorem oM:(lL k fin i).length=cnt k i:=by simp [lL,cnt]
theorem NL (h:k i=true):lL k fin (i+1)=lL k fin i++[fin.getD i false]:=by simp [lL,List.range_succ,h]
theorem Jg (h:k i=false):lL k fin (i+1)=lL k fin i:=by simp [lL,List.range_succ,h]
theorem cnt_le:cnt k i<=i:=by
 have:=List.length_filter_le k (List.range i)
 simpa [cnt] using this
theorem J9 {l:List A} {j:Nat} (h:j<l.length):qG k (l.take (j+1))=qG k (l.take j)++(if k (l.getD j default).f.toNat&&k (l.getD j default).t.toNat then [⟨cnt k (l.getD j default).f.toNat,(l.getD j default).i,(l.getD j default).o,cnt k (l.getD j default).t.toNat⟩] else []):=by
 unfold qG
 rw [dw h,List.filterMap_append]
 congr 1
 generalize l.getD j default=a
 by_cases hk:(k a.f.toNat&&k a.t.toNat)=true
 ·simp only [List.filterMap_cons,List.filterMap_nil,if_pos hk]
 ·simp only [List.filterMap_cons,List.filterMap_nil,if_neg hk]
theorem zJ (l:List A):(qG k l).length<=l.length:=List.length_filterMap_le _ _
end
open Classical in
noncomputable def jZ (fin:List Bool) (al:List A) (i:Nat):Bool:=decide (Rc al (·.f) (·.t) (·=0) i/\Rc al (·.t) (·.f) (fun j=>fin.getD j false=true) i)
theorem kpF_iff {fin:List Bool} {al:List A} {i:Nat}:jZ fin al i=true <-> Rc al (·.f) (·.t) (·=0) i/\Rc al (·.t) (·.f) (fun j=>fin.getD j false=true) i:=by simp [jZ]
open Classical in
noncomputable def trimF (fin:List Bool) (al:List A):List Bool×List A :=
 if okF fin al=true then
  if Rc al (·.t) (·.f) (fun j=>fin.getD j false=true) 0 then (lL (jZ fin al) fin fin.length,qG (jZ fin al) al) else ([false],[])
 else ([],[])
end Go.Proofs.Ytlbdmpjnmfmnfaa
end
