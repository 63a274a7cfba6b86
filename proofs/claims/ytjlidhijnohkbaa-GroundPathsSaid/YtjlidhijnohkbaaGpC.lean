import Derived.Test.YtjlidhijnohkbaaHlRx
import Derived.Test.YtjlidhijnohkbaaHb
import Derived.Test.YtjlidhijnohkbaaHlW
set_option linter.unusedSimpArgs false
set_option linter.unusedVariables false
set_option maxHeartbeats 8000000
namespace Go.Proofs.Ytjlidhijnohkbaa
open Go.RowKit Go.HL
def jO (v:List Int) (k:Nat):List Int:=(List.range v.length).map fun t=>if t<k\/v.length<=t+k then v.getD (v.length - 1 - t) 0 else v.getD t 0
theorem NE (v:List Int) (k:Nat):(jO v k).length=v.length:=by simp [jO]
theorem EZ {v:List Int} {k t:Nat} (h:t<v.length):(jO v k).getD t 0=if t<k\/v.length<=t+k then v.getD (v.length - 1 - t) 0 else v.getD t 0:=by simp [jO,h]
theorem KE (v:List Int):jO v 0=v:=by
 apply BK
 ·simp [jO]
 ·intro t h1 h2
  simp only [jO,Gh,EF]
  rw [if_neg (by omega)]
  simp [h2]
theorem JJ {v:List Int} {k m:Nat} (h:k+m+1=v.length) (hk:k<m):((jO v k).set k ((jO v k).getD m 0)).set m ((jO v k).getD k 0)=jO v (k+1):=by
 have e1:(jO v k).getD m 0=v.getD m 0:=by rw [EZ (by omega),if_neg (by omega)]
 have e2:(jO v k).getD k 0=v.getD k 0:=by rw [EZ (by omega),if_neg (by omega)]
 rw [e1,e2]
 apply BK
 ·simp [jO]
 ·intro t h1 h2
  have ht:t<v.length:=by simpa [jO] using h2
  simp only [jO,List.getElem_set,Gh,EF]
  by_cases a:m=t
  ·subst a
   rw [if_pos rfl,if_pos (by omega),show v.length - 1 - m=k by omega]
  ·rw [if_neg a]
   by_cases b:k=t
   ·subst b
    rw [if_pos rfl,if_pos (by omega),show v.length - 1 - k=m by omega]
   ·rw [if_neg b]
    by_cases c:t<k\/v.length<=t+k
    ·rw [if_pos c,if_pos (by omega)]
    ·rw [if_neg c,if_neg (by omega)]
theorem MF {v:List Int} {k m:Nat} (h:k+m+1=v.length) (hk:m<=k):jO v k=v.reverse:=by
 apply BK
 ·simp [jO]
 ·intro t h1 h2
  have ht:t<v.length:=by simpa [jO] using h1
  simp only [jO,Gh,EF,List.getElem_reverse]
  by_cases c:t<k\/v.length<=t+k
  ·rw [if_pos c];simp [show v.length - 1 - t<v.length by omega]
  ·rw [if_neg c]
   have:t=v.length - 1 - t:=by omega
   simp only [dW,dS ht,gV]
   congr 1
theorem Ho (v:List Int) (h0:0<v.length) (hl:v.length<=1000000):HTI Try.prog 46 [.osl 1 v.length (HL.ints v)] [0] (fun r outs=>r=.tup []/\outs=[.osl 1 v.length (HL.ints v.reverse)]):=by
 refine HTI.ofR rfl S9 (gZ rfl) 1 [0] (by rfl) (by rfl) (⟨[(0,.ref 0 [] 1 0 v.length)],[(0,.osl 1 v.length (HL.ints v))],1⟩:St) rfl ?_
 unfold c46
 refine zF ⟨?_⟩
 rw [show HL.ints v=HL.ints (jO v 0) by rw [KE],show ((v.length:Nat):Int) - 1=((v.length - 1:Nat):Int) by omega]
 refine aQ [0,2,3] (fun p:Nat×Nat=>p.1+p.2+1=v.length)
  (fun p=>⟨[(0,.ref 0 [] 1 0 v.length),(2,.int .i64 (p.1:Nat)),(3,.int .i64 (p.2:Nat))],[(0,.osl 1 v.length (HL.ints (jO v p.1)))],1⟩)
  (fun p=>p.2) (0,v.length - 1) dD rfl ?_
 rintro ⟨k,m⟩ hkm
 simp only at hkm ⊢
 by_cases hlt:k<m
 ·have hst:=JJ hkm hlt
  have hrl:=NE v k
  have g1:(HL.ints (jO v k)).getD m .dead=.int .i64 ((jO v k).getD m 0):=by simp [HL.ints,show m<(jO v k).length by omega]
  have g2:(HL.ints (jO v k)).getD k .dead=.int .i64 ((jO v k).getD k 0):=by simp [HL.ints,show k<(jO v k).length by omega]
  generalize (jO v k).getD m 0=x at hst g1
  generalize (jO v k).getD k 0=y at hst g2
  generalize jO v k=row at hst hrl g1 g2 ⊢
  refine dC ?_
  refine dC ?_
  refine aW ?_
  refine zQ ⟨?_⟩
  refine dZ (by rfl) ?_
  refine dN ?_
  refine dC ?_
  refine dV ?_
  refine iL bM bM (fun _ _ _=>False) ?_
  refine kE (zA @g1 @g2) ⟨?_⟩
  refine bg [0,2,3] (k+1,m - 1) dD dD ?_
  simp only [<- hst,show ((m - 1:Nat):Int)=(m:Int) - 1 by omega]
  rfl
 ·have he:=MF hkm (by omega)
  rw [he]
  refine zF ⟨?_⟩
  refine IB (rs:=[0]) aY PV Uy ?_
  exact ⟨_,rfl,rfl,by simp,rfl,rfl⟩
end Go.Proofs.Ytjlidhijnohkbaa
