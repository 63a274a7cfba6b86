import Derived.Test.YtjlidhijnohkbaaGrV
import Derived.Test.YtjlidhijnohkbaaHlW
set_option linter.unusedSimpArgs false
set_option linter.unusedVariables false
set_option maxHeartbeats 4000000
section
namespace Go.Proofs.Ytjlidhijnohkbaa
open Go.RowKit Go.HL
def dR (l:List (List Nat)):List HV:=l.map fun r=>.osl 1 r.length (HL.ints (nl r))
theorem Dp (l:List (List Nat)):(dR l).length=l.length:=by simp [dR]
theorem KQ (l:List (List Nat)) {i:Nat} (h:i<l.length):(dR l).getD i .dead=.osl 1 (l.getD i []).length (HL.ints (nl (l.getD i []))):=by simp [dR,h]
theorem og (l:List (List Nat)):stripL (dR l)=aO (l.map nl):=by
 induction l with
 | nil=>rfl
 | cons a l ih=>unfold dR aO at ih ⊢;simp only [iy,stripL,HV.strip,HL.ints_strip,ih,bH]
theorem JR (l:List (List Nat)) (i:Nat) (x:List Nat) (v:HV) {m:Nat} (hm:m=x.length):((dR l).set i v).set i (.osl 1 m (HL.ints (nl x)))=dR (l.set i x):=by
 subst hm
 simp [dR,List.set_set,List.map_set]
theorem NI (n:Nat):(List.replicate n [HV.osl 1 0 []]).flatten=dR (List.replicate n []):=by
 induction n with
 | zero=>rfl
 | succ n ih=>rw [Cf,List.flatten_cons,ih];rfl
theorem oU (l:List (List Nat)) {n:Nat} (h:n=l.length):win (dR l) 0 n=dR l:=kY _ (by rw [Dp];exact h)
theorem uA (l:List (List Nat)) (x:List Nat) {m:Nat} (hm:m=x.length):dR l++[.osl 1 m (HL.ints (nl x))]=dR (l++[x]):=by subst hm;simp [dR]
attribute [go_sem] KQ Dp oU NI
theorem Fe (nd:List (List Nat)):fC nd 0 0=List.replicate nd.length []:=by
 apply BK
 ·simp [fC]
 ·intro j h1 h2;simp [fC,kX,sU]
theorem JY (nd:List (List Nat)) {j:Nat} (h:j<nd.length):(fC nd nd.length 0).getD j []=bP nd j:=by
 rw [zo _ _ _ h];simp [kX,bP]
structure R0 (nd:List (List Nat)) (bad:List Bool) (i:Nat) (rank left:List Int) (now:List Nat):Prop where
 lr:rank.length=nd.length
 ll:left.length=nd.length
 rank_:∀u,u<i->rank.getD u 0 = -1
 left_:∀u,u<i->left.getD u 0=((nd.getD u []).length:Int)
 now_:now=firstTo nd bad i
theorem R0.step {nd:List (List Nat)} {bad:List Bool} {i:Nat} {rank left:List Int} {now:List Nat} (s:R0 nd bad i rank left now) (hi:i<nd.length) :
  R0 nd bad (i+1) (rank.set i (-1)) (left.set i ((nd.getD i []).length:Int)) (now++if nd.getD i []=[]/\bad.getD i false=false then [i] else []):=by
 refine ⟨by simpa using s.lr,by simpa using s.ll,fun u hu=>?_,fun u hu=>?_,by rw [DN,s.now_]⟩
 ·rw [gJ _ _ _ _ _ (by rw [s.lr];exact hi)]
  split
  ·rfl
  ·exact s.rank_ u (by omega)
 ·rw [gJ _ _ _ _ _ (by rw [s.ll];exact hi)]
  split
  ·rename_i h;subst h;rfl
  ·exact s.left_ u (by omega)
theorem BA (needs:List (List Int)) (bad:List Bool) (h1:needs.length<=9223372036854775807) (h2:bad.length<=9223372036854775807) (h3:∀i,(needs.getD i []).length<=9223372036854775807):HT Try.prog 14 [Gs needs,Bl bad] (fun r=>∃b,r=.bool b/\(b=true <-> VG needs bad)):=by
 refine HT.of rfl SN (gZ rfl) ?_
 unfold c14
 simp only [Gs,Bl,aB,Nat.reduceAdd]
 by_cases hs:needs.length>256
 ·refine zM ⟨?_⟩
  refine az ?_
  exact ⟨false,rfl,by simp;intro h;have:=h.size;omega⟩
 by_cases hb:bad.length=needs.length
 ·refine zM ⟨?_⟩
  refine aQ [0,1,19,20,21] (fun i:Nat=>i<=needs.length/\∀j,j<i->∀k,k<(needs.getD j []).length->Tq needs j k) (fun i=>⟨[(0,.sl needs.length (aO needs)),(1,.sl bad.length (HL.bools bad)),(19,.sl needs.length (aO needs)),(20,.int .i64 needs.length),(21,.int .i64 i)],[],0⟩) (fun i=>needs.length - i) 0 ⟨by omega,by omega⟩ rfl ?_
  rintro i ⟨hi,ho⟩
  by_cases hin:i<needs.length
  ·have hlen:=h3 i
   refine zM ⟨?_⟩
   refine aQ [0,1,6,19,20,21,25,26,27] (fun k:Nat=>k<=(needs.getD i []).length/\∀q,q<k->Tq needs i q) (fun k=>⟨[(0,.sl needs.length (aO needs)),(1,.sl bad.length (HL.bools bad)),(6,.sl (needs.getD i []).length (HL.ints (needs.getD i []))),(19,.sl needs.length (aO needs)),(20,.int .i64 needs.length),(21,.int .i64 i),(25,.sl (needs.getD i []).length (HL.ints (needs.getD i []))),(26,.int .i64 (needs.getD i []).length),(27,.int .i64 k)],[],0⟩) (fun k=>(needs.getD i []).length - k) 0 ⟨by omega,by omega⟩ rfl ?_
   rintro k ⟨hk,hq⟩
   by_cases hkl:k<(needs.getD i []).length
   ·have hk1:((k:Int) - 1).toNat=k - 1:=by omega
    by_cases c1:(needs.getD i []).getD k 0<0
    ·by_cases hk0:0<k <;>
     ·refine P7 @hk1 ⟨?_⟩
      refine az ?_
      exact ⟨false,rfl,by simp;intro h;have:=(h.ok i hin k hkl).1;omega⟩
    by_cases c2:(needs.getD i []).getD k 0 ≥ needs.length
    ·by_cases hk0:0<k <;>
     ·refine P7 @hk1 ⟨?_⟩
      refine az ?_
      exact ⟨false,rfl,by simp;intro h;have:=(h.ok i hin k hkl).2.1;omega⟩
    by_cases hk0:0<k
    ·by_cases c3:(needs.getD i []).getD k 0<=(needs.getD i []).getD (k - 1) 0
     ·refine P7 @hk1 ⟨?_⟩
      refine az ?_
      exact ⟨false,rfl,by simp;intro h;have:=(h.ok i hin k hkl).2.2 hk0;omega⟩
     ·refine P7 @hk1 ⟨?_⟩
      refine bg [0,1,6,19,20,21,25,26,27] (k+1) ⟨hkl,fun q hq'=>?_⟩ (by omega) rfl
      by_cases e:q=k
      ·subst e;exact ⟨by omega,by omega,fun _=>by omega⟩
      ·exact hq q (by omega)
    ·refine P7 @hk1 ⟨?_⟩
     refine bg [0,1,6,19,20,21,25,26,27] (k+1) ⟨hkl,fun q hq'=>?_⟩ (by omega) rfl
     by_cases e:q=k
     ·subst e;exact ⟨by omega,by omega,fun _=>by omega⟩
     ·exact hq q (by omega)
   ·refine zM ⟨?_⟩
    refine bg [0,1,19,20,21] (i+1) ⟨hin,fun j hj q hq'=>?_⟩ (by omega) rfl
    by_cases e:j=i
    ·subst e;exact hq q (by omega)
    ·exact ho j (by omega) q hq'
  ·refine zM ⟨?_⟩
   refine az ?_
   exact ⟨true,rfl,by simp;exact ⟨by omega,hb,fun j hj=>ho j (by omega)⟩⟩
 ·refine zM ⟨?_⟩
  refine az ?_
  exact ⟨false,rfl,by simp;intro h;exact hb h.bads⟩
end Go.Proofs.Ytjlidhijnohkbaa
end
