import Derived.Test.YtjlidhijnohkbaaGrTable
import Derived.Test.YtjlidhijnohkbaaHlW
set_option linter.unusedSimpArgs false
set_option linter.unusedVariables false
set_option maxHeartbeats 4000000
namespace Go.Proofs.Ytjlidhijnohkbaa
open Go.RowKit Go.HL
def ends (bad:List Bool) (round:List Int) (u:Nat):Prop:=bad.getD u false=true\/0<round.getD u 0
structure IsRest (bad:List Bool) (dv round:List Int) (n i:Nat) (r:Int):Prop where
 top:r<=2*n
 low:0<=r
 all:∀u,u<i->0<=dv.getD u 0->ends bad round u->r<=dv.getD u 0+round.getD u 0
 one:r=2*n\/∃u,u<i/\0<=dv.getD u 0/\ends bad round u/\r=dv.getD u 0+round.getD u 0
section
variable {bad:List Bool} {dv round:List Int} {n i:Nat} {r:Int}
theorem IsRest.skip (s:IsRest bad dv round n i r) (h:¬ (0<=dv.getD i 0/\ends bad round i)):IsRest bad dv round n (i+1) r:=by
 refine ⟨s.top,s.low,fun u hu h0 he=>?_,?_⟩
 ·by_cases e:u=i
  ·subst e;exact absurd ⟨h0,he⟩ h
  ·exact s.all u (by omega) h0 he
 ·rcases s.one with h|⟨u,h1,h2⟩
  ·exact .inl h
  ·exact .inr ⟨u,by omega,h2⟩
theorem IsRest.take (s:IsRest bad dv round n i r) (h0:0<=dv.getD i 0) (h1:ends bad round i) (h2:0<=round.getD i 0):IsRest bad dv round n (i+1) (if dv.getD i 0+round.getD i 0<r then dv.getD i 0+round.getD i 0 else r):=by
 have st:=s.top
 have sl:=s.low
 refine ⟨by split<;>omega,by split<;>omega,fun u hu h0' he=>?_,?_⟩
 ·by_cases e:u=i
  ·subst e;split<;>omega
  ·have:=s.all u (by omega) h0' he
   split<;>omega
 ·split
  ·exact .inr ⟨i,by omega,h0,h1,rfl⟩
  ·rcases s.one with h|⟨u,h1,h2⟩
   ·exact .inl h
   ·exact .inr ⟨u,by omega,h2⟩
end
theorem Je (nd:List (List Nat)) (bad:List Bool) (ds:List (List Int)) (round:List Int) (g:Gr nd bad) (ht:IsTable nd bad ds round) (v:Nat) (hv:v<nd.length) :
  HT Try.prog 34 [.int .i64 v,.ptr [Gs (nd.map nl)] 0,.ptr [Gs ds] 0,.ptr [Bl bad] 0,.ptr [I round] 0] (fun r=>∃x:Int,r=.int .i64 x/\IsRest bad (ds.getD v []) round nd.length nd.length x):=by
 have hsz:=g.size
 have hbl:=g.bads
 have hnl:(nd.map nl).length=nd.length:=by simp
 have hdl:=ht.len
 have hrl:=ht.round_.len
 have hvl:=(ht.dist v hv).len
 have hlow:=(ht.dist v hv).low
 have hrlow:=ht.round_.low
 have hrtop:∀u,u<nd.length->round.getD u 0<=257:=fun u hu=>by
  by_cases h:0<round.getD u 0
  ·obtain ⟨a,h1,h2,h3⟩:=ht.round_.from_ u hu h
   have ha:a<nd.length:=by
    apply Nq
    intro hn
    have:nd.getD a []=[]:=by rw [dW,jb (by omega)];rfl
    rw [this] at h1;cases h1
   have:=((ht.dist u hu).low a ha).2
   omega
  ·omega
 refine HT.of rfl Rh (gZ rfl) ?_
 unfold c34
 simp only [Gs,Bl,I,aB,Nat.reduceAdd]
 rw [hnl,hbl,hdl,hrl]
 generalize hdv:ds.getD v []=dv at hvl hlow
 refine kE @hdv ⟨?_⟩
 refine aQ [3,4,7,16,17,18] (fun s:Nat×Int=>s.1<=nd.length/\IsRest bad dv round nd.length s.1 s.2)
  (fun s=>⟨[(3,.ptr [.sl nd.length (HL.bools bad)] 0),(4,.ptr [.sl nd.length (HL.ints round)] 0),(7,.int .i64 s.2),(16,.sl nd.length (HL.ints dv)),(17,.int .i64 nd.length),(18,.int .i64 s.1)],[],0⟩)
  (fun s=>nd.length - s.1) (0,2*(nd.length:Int)) ⟨by simp,⟨by simp,by simp only;omega,fun u hu=>absurd hu (by simp),.inl rfl⟩⟩ (by rw [<- hvl];rfl) ?_
 rintro ⟨i,r⟩ ⟨hi,hR⟩
 simp only at hi hR ⊢
 have hrt:=hR.top
 have hr0:=hR.low
 by_cases hin:i<nd.length
 ·have hl1:=hlow i hin
  have hl2:=hrlow i hin
  have hl3:=hrtop i hin
  by_cases h0:0<=dv.getD i 0
  ·by_cases he:ends bad round i
   ·have hT:=hR.take h0 he hl2
    generalize hq:(if dv.getD i 0+round.getD i 0<r then dv.getD i 0+round.getD i 0 else r)=q at hT
    cases hb:bad.getD i false with
    | true =>
     refine kE (zA @hb @hq) ⟨?_⟩
     exact bg [3,4,7,16,17,18] (i+1,q) ⟨hin,hT⟩ dD rfl
    | false =>
     have hpos:0<round.getD i 0:=by
      rcases he with h|h
      ·rw [hb] at h;cases h
      ·exact h
     refine kE (zA @hb @hq) ⟨?_⟩
     exact bg [3,4,7,16,17,18] (i+1,q) ⟨hin,hT⟩ dD rfl
   ·have hb:bad.getD i false=false:=by
     cases hb:bad.getD i false with
     | false=>rfl
     | true=>exact absurd (.inl hb) he
    have hpos:¬ 0<round.getD i 0:=fun h=>he (.inr h)
    refine kE @hb ⟨?_⟩
    exact bg [3,4,7,16,17,18] (i+1,r) ⟨hin,hR.skip fun h=>he h.2⟩ dD rfl
  ·refine zF ⟨?_⟩
   exact bg [3,4,7,16,17,18] (i+1,r) ⟨hin,hR.skip fun h=>h0 h.1⟩ dD rfl
 ·obtain rfl:i=nd.length:=by omega
  refine zF ⟨?_⟩
  refine az ?_
  exact ⟨r,rfl,hR⟩
end Go.Proofs.Ytjlidhijnohkbaa
