import Derived.Test.YtjlidhijnohkbaaGrW
import Derived.Test.YtjlidhijnohkbaaHlW
import Derived.Test.YtjlidhijnohkbaaGrWit2
set_option linter.unusedSimpArgs false
set_option linter.unusedVariables false
set_option maxHeartbeats 1000000
section
namespace Go.Proofs.Ytjlidhijnohkbaa
open Go.RowKit Go.HL
theorem KL (l m:List Int) (h1:l.length<=9223372036854775807) (h2:m.length<=9223372036854775807):HT Try.prog 16 [I l,I m] (fun r=>∃b,r=.bool b/\(b=true <-> l=m)):=by
 refine HT.of rfl RD (gZ rfl) ?_
 unfold c16
 simp only [I,aB,Nat.reduceAdd]
 by_cases hlen:l.length=m.length
 ·refine zF ⟨?_⟩
  refine aQ [0,1,5] (fun k:Nat=>k<=l.length/\∀q,q<k->l.getD q 0=m.getD q 0) (fun k=>⟨[(0,.sl l.length (HL.ints l)),(1,.sl m.length (HL.ints m)),(5,.int .i64 k)],[],0⟩) (fun k=>l.length - k) 0 ⟨by omega,by omega⟩ rfl ?_
  rintro k ⟨hk,hq⟩
  by_cases hkl:k<l.length
  ·by_cases h:l.getD k 0=m.getD k 0
   ·refine zM ⟨?_⟩
    refine iL bM bM (fun _ _ _=>False) ?_
    refine zM ⟨?_⟩
    refine bg [0,1,5] (k+1) ⟨hkl,fun q hq'=>?_⟩ (by omega) rfl
    by_cases e:q=k
    ·subst e;exact h
    ·exact hq q (by omega)
   ·refine zM ⟨?_⟩
    refine iL bM bM (fun _ _ _=>False) ?_
    refine zM ⟨?_⟩
    refine az ?_
    exact ⟨false,rfl,by simp;intro e;subst e;exact h rfl⟩
  ·refine zM ⟨?_⟩
   refine az ?_
   refine ⟨true,rfl,fun _=>?_,fun _=>rfl⟩
   apply BK hlen
   intro i a b
   have:=hq i (by omega)
   rwa [mQ a,mQ b] at this
 ·refine zF ⟨?_⟩
  refine az ?_
  exact ⟨false,rfl,by simp;intro e;subst e;exact hlen rfl⟩
structure IsWit (nd:List (List Nat)) (bad:List Bool) (i:Nat) (path:List Nat):Prop where
 pos:0<path.length
 head:path.getD 0 0=i
 lt:∀k,k<path.length->path.getD k 0<nd.length
 edge:∀k,k+1<path.length->path.getD (k+1) 0∈nd.getD (path.getD k 0) []
 ends:∀k,k<path.length->((bad.getD (path.getD k 0) false=true\/path.getD k 0∈path.take k) <-> k+1=path.length)
end Go.Proofs.Ytjlidhijnohkbaa
end
section
namespace Go.Proofs.Ytjlidhijnohkbaa
section
variable {nd:List (List Nat)} {bad:List Bool} {ds ds':List (List Int)} {round round' rank:List Int} {i j:Nat} {total:Int} {path:List Nat}
theorem Pth.wit (t:IsTable nd bad ds round) (s:Pth nd bad ds round rank i total path) (hl:(path.length:Int)=total+1):IsWit nd bad i path:=by
 have hlt:∀k,k<path.length->path.getD k 0<nd.length:=fun k hk=>(s.lt _ (getD_mem path k 0 hk)).1
 refine ⟨s.pos,s.head,hlt,s.edge,fun k hk=>?_⟩
 have h:=(s.left k hk).done t (hlt k hk) (fun x hx=>(s.lt x (List.mem_of_mem_take hx)).1)
 rw [<- h]
 omega
theorem Pth.start (s:Pth nd bad ds round rank i total path):RR nd bad ds round i [] total:=by
 have:=s.left 0 s.pos
 rw [s.head] at this
 simpa using this
theorem RR.zero_ (t:IsTable nd bad ds round) (hi:i<nd.length) (h:RR nd bad ds round i [] total):total=0 <-> bad.getD i false=true:=by
 rw [h.done t hi (by simp)]
 simp
theorem RR.need (g:Gr nd bad) (t:IsTable nd bad ds round) (hi:i<nd.length) (h:RR nd bad ds round i [] total) {s:Int} (hj:j∈nd.getD i []) (h':RR nd bad ds round j [] s):total<=s+1:=by
 cases hb:bad.getD i false with
 | true =>
  have:=(h.zero_ t hi).2 hb
  have:=h'.low
  omega
 | false =>
  have h2:=h'.add i
  have h3:=h.step1 g t hi hb (by simp) hj h2
  split at h3<;>(try split at h3)<;>omega
end
end Go.Proofs.Ytjlidhijnohkbaa
end
