import Derived.Test.YtjlidhijnohkbaaGrWitR
import Derived.Test.YtjlidhijnohkbaaGrRank
set_option linter.unusedSimpArgs false
set_option linter.unusedVariables false
namespace Go.Proofs.Ytjlidhijnohkbaa
open Go.RowKit Go.HL
structure Pth (nd:List (List Nat)) (bad:List Bool) (ds:List (List Int)) (round rank:List Int) (i:Nat) (total:Int) (path:List Nat):Prop where
 head:path.getD 0 0=i
 pos:0<path.length
 lt:∀x∈path,x<nd.length/\rank.getD x 0<0
 edge:∀k,k+1<path.length->path.getD (k+1) 0∈nd.getD (path.getD k 0) []
 left:∀k,k<path.length->RR nd bad ds round (path.getD k 0) (path.take k) (total - k)
 least:∀k,k+1<path.length->∃e,e<(nd.getD (path.getD k 0) []).length/\path.getD (k+1) 0=(nd.getD (path.getD k 0) []).getD e 0/\∀q,q<e->¬ RR nd bad ds round ((nd.getD (path.getD k 0) []).getD q 0) (path.take (k+1)) (total - ((k:Int)+1))
section
variable {nd:List (List Nat)} {bad:List Bool} {ds:List (List Int)} {round rank:List Int} {i:Nat} {total:Int} {path:List Nat}
theorem aX (l:List Nat) (x:Nat) {k:Nat} (h:k<l.length):(l++[x]).getD k 0=l.getD k 0:=by
 rw [dW,FU h,<- dW]
theorem gG (l:List Nat) (x:Nat):(l++[x]).getD l.length 0=x:=by simp
theorem kT (l:List Nat) (x:Nat) {k:Nat} (h:k<=l.length):(l++[x]).take k=l.take k:=by rw [LD h]
theorem Pth.first (hi:i<nd.length) (hr:rank.getD i 0<0) (h:RR nd bad ds round i [] total):Pth nd bad ds round rank i total [i] :=
 ⟨rfl,by simp,by simp;exact ⟨hi,by simpa using hr⟩,fun k hk=>by simp at hk,fun k hk=>by
  obtain rfl:k=0:=by simpa using hk
  simpa using h,fun k hk=>by simp at hk⟩
theorem Pth.add (s:Pth nd bad ds round rank i total path) {e:Nat} (he:e<(nd.getD (path.getD (path.length - 1) 0) []).length) {v:Nat} (hv:(nd.getD (path.getD (path.length - 1) 0) []).getD e 0=v) (hvn:v<nd.length) (hvr:rank.getD v 0<0)
  (hR:RR nd bad ds round v path (total - path.length)) (hl:∀q,q<e->¬ RR nd bad ds round ((nd.getD (path.getD (path.length - 1) 0) []).getD q 0) path (total - path.length)):Pth nd bad ds round rank i total (path++[v]):=by
 have hp:=s.pos
 have hlen:(path++[v]).length=path.length+1:=by simp
 refine ⟨by rw [aX _ _ hp];exact s.head,by omega,fun x hx=>?_,fun k hk=>?_,fun k hk=>?_,fun k hk=>?_⟩
 ·rcases zl001.1 hx with h|h
  ·exact s.lt x h
  ·simp at h;subst h;exact ⟨hvn,hvr⟩
 ·rw [hlen] at hk
  by_cases h:k+1<path.length
  ·rw [aX _ _ h,aX _ _ (by omega)];exact s.edge k h
  ·have e1:k+1=path.length:=by omega
   have e2:k=path.length - 1:=by omega
   rw [aX _ _ (show k<path.length by omega),e1,gG,e2,<- hv]
   exact getD_mem _ _ _ he
 ·rw [hlen] at hk
  by_cases h:k<path.length
  ·rw [aX _ _ h,kT _ _ (by omega)];exact s.left k h
  ·obtain rfl:k=path.length:=by omega
   rw [gG,kT _ _ (aP _),lV];exact hR
 ·rw [hlen] at hk
  by_cases h:k+1<path.length
  ·rw [aX _ _ h,aX _ _ (by omega),kT _ _ (by omega)];exact s.least k h
  ·have e1:k+1=path.length:=by omega
   have e2:k=path.length - 1:=by omega
   have e3:((k:Int)+1)=path.length:=by omega
   rw [aX _ _ (show k<path.length by omega),e1,gG,kT _ _ (aP _),lV,e3,e2]
   exact ⟨e,he,hv.symm,hl⟩
theorem Pth.next (g:Gr nd bad) (t:IsTable nd bad ds round) (hR:IsRank nd bad rank) (hrest:∀v,v<nd.length->∃x,IsRest bad (ds.getD v []) round nd.length nd.length x) (s:Pth nd bad ds round rank i total path) (hle:(path.length:Int)<=total) :
  ∃w∈nd.getD (path.getD (path.length - 1) 0) [],RR nd bad ds round w path (total - path.length):=by
 have hp:=s.pos
 have hm:=getD_mem path (path.length - 1) 0 (by omega)
 obtain ⟨h1,h2⟩:=s.lt _ hm
 have hl:=s.left (path.length - 1) (by omega)
 have hlt:∀x∈path.take (path.length - 1),x<nd.length:=fun x hx=>(s.lt x (zN hx)).1
 have hfin:=hl.fin g t hR h1 h2
 have hpath:path=path.take (path.length - 1)++[path.getD (path.length - 1) 0]:=by
  have:=aT path (path.length - 1) 0 (by omega)
  rw [show path.length - 1+1=path.length by omega,lV] at this
  exact this
 have hd:=hl.done t h1 hlt
 have hno:¬ (bad.getD (path.getD (path.length - 1) 0) false=true\/path.getD (path.length - 1) 0∈path.take (path.length - 1)):=fun h=>by have:=hd.2 h;omega
 have hb:bad.getD (path.getD (path.length - 1) 0) false=false:=by
  cases h:bad.getD (path.getD (path.length - 1) 0) false with
  | false=>rfl
  | true=>exact absurd (.inl h) hno
 obtain ⟨w,hw,hw2⟩:=hl.step2 g t h1 hb hlt (fun h=>hno (.inr h)) hfin fun w hw=>RR.exists (by obtain ⟨x,hx⟩:=hrest w hw;exact ⟨x,RR.rest hx⟩) _
 rw [<- hpath] at hw2
 have e:total - ((path.length - 1:Nat):Int) - 1=total - path.length:=by omega
 rw [e] at hw2
 exact ⟨w,hw,hw2⟩
end
end Go.Proofs.Ytjlidhijnohkbaa
