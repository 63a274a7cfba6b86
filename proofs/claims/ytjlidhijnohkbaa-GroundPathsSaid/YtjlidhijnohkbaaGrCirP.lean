import Derived.Test.YtjlidhijnohkbaaGrWitQ
set_option linter.unusedSimpArgs false
set_option linter.unusedVariables false
namespace Go.Proofs.Ytjlidhijnohkbaa
structure IsCirc (nd:List (List Nat)) (bad:List Bool) (n:Nat) (c:Nat->Nat):Prop where
 pos:0<n
 lt:∀i,c i<nd.length
 good:∀i,bad.getD (c i) false=false
 edge:∀i,c (i+1)∈nd.getD (c i) []
 back:∀i,c (i+n)=c i
def FirstC (round:List Int) (i:Nat) (f:Int):Prop :=
 (f = -1/\∀u,u<i->round.getD u 0<=0)\/∃k:Nat,f=k/\k<i/\0<round.getD k 0/\∀u,u<i->0<round.getD u 0->round.getD k 0<round.getD u 0\/(round.getD k 0=round.getD u 0/\k<=u)
structure Cir (nd:List (List Nat)) (bad:List Bool) (ds:List (List Int)) (round:List Int) (f:Nat) (path:List Nat):Prop where
 pos:0<path.length
 head:path.getD 0 0=f
 lt:∀x∈path,x<nd.length/\bad.getD x false=false
 edge:∀k,k+1<path.length->path.getD (k+1) 0∈nd.getD (path.getD k 0) []
 left:∀k,k<path.length->0<k->dd ds (path.getD k 0) f=round.getD f 0 - k
 least:∀k,k+1<path.length->∃e,e<(nd.getD (path.getD k 0) []).length/\path.getD (k+1) 0=(nd.getD (path.getD k 0) []).getD e 0 /\
  ∀q,q<e->¬ (bad.getD ((nd.getD (path.getD k 0) []).getD q 0) false=false/\dd ds ((nd.getD (path.getD k 0) []).getD q 0) f=round.getD f 0 - ((k:Int)+1))
section
variable {nd:List (List Nat)} {bad:List Bool} {ds:List (List Int)} {round:List Int} {f i:Nat} {path:List Nat} {fi:Int}
theorem FirstC.zero_:FirstC round 0 (-1):=.inl ⟨rfl,fun u hu=>absurd hu (by omega)⟩
theorem FirstC.keep (s:FirstC round i fi) (h:¬ (0<round.getD i 0/\(fi<0\/round.getD i 0<round.getD fi.toNat 0))):FirstC round (i+1) fi:=by
 rcases s with ⟨rfl,h1⟩|⟨k,rfl,h1,h2,h3⟩
 ·refine .inl ⟨rfl,fun u hu=>?_⟩
  by_cases e:u=i
  ·subst e;apply Classical.byContradiction;intro hn;exact h ⟨by omega,.inl (by omega)⟩
  ·exact h1 u (by omega)
 ·simp only [Int.toNat_natCast] at h
  refine .inr ⟨k,rfl,by omega,h2,fun u hu h0=>?_⟩
  by_cases e:u=i
  ·subst e
   have:¬ round.getD u 0<round.getD k 0:=fun q=>h ⟨h0,.inr q⟩
   omega
  ·exact h3 u (by omega) h0
theorem FirstC.take (s:FirstC round i fi) (h0:0<round.getD i 0) (h:fi<0\/round.getD i 0<round.getD fi.toNat 0):FirstC round (i+1) i:=by
 refine .inr ⟨i,rfl,by omega,h0,fun u hu hu0=>?_⟩
 by_cases e:u=i
 ·subst e;exact .inr ⟨rfl,Nat.le_refl _⟩
 ·rcases s with ⟨rfl,h1⟩|⟨k,rfl,h1,h2,h3⟩
  ·have:=h1 u (by omega);omega
  ·simp only [Int.toNat_natCast] at h
   have:=h3 u (by omega) hu0
   omega
theorem IsTable.walk (t:IsTable nd bad ds round) {n:Nat} {c:Nat->Nat} (h:IsCirc nd bad n c) (i:Nat):∀m,0<=dd ds (c i) (c (i+m))/\dd ds (c i) (c (i+m))<=m:=by
 intro m
 induction m with
 | zero =>
  have:=((t.dist _ (h.lt i)).zero _ (h.lt i)).2 rfl
  rw [Nat.add_zero]
  unfold dd
  omega
 | succ m ih =>
  have:=(t.dist _ (h.lt i)).cl (c (i+m)) (h.lt _) ih.1 (h.good _) _ (h.edge (i+m))
  rw [<- Nat.add_assoc]
  unfold dd at *
  omega
theorem IsTable.knows (g:Gr nd bad) (t:IsTable nd bad ds round) {n:Nat} {c:Nat->Nat} (h:IsCirc nd bad n c) (i:Nat):0<round.getD (c i) 0/\round.getD (c i) 0<=n:=by
 have hp:=h.pos
 have hw:=t.walk h (i+1) (n - 1)
 rw [show i+1+(n - 1)=i+n by omega,h.back] at hw
 have:=(t.circ g (h.lt i) (h.good i)).1 _ (h.edge i) hw.1
 omega
theorem IsTable.goodRound (t:IsTable nd bad ds round) (hf:f<nd.length) (h:0<round.getD f 0):bad.getD f false=false:=by
 obtain ⟨u,_,h2,_⟩:=t.round_.from_ f hf h
 exact h2.2.1
theorem Cir.first (t:IsTable nd bad ds round) (hf:f<nd.length) (h:0<round.getD f 0):Cir nd bad ds round f [f] :=
 ⟨by simp,rfl,by simp;exact ⟨hf,by simpa using t.goodRound hf h⟩,fun k hk=>by simp at hk,fun k hk h0=>by simp at hk;omega,fun k hk=>by simp at hk⟩
theorem Cir.add (s:Cir nd bad ds round f path) {e:Nat} (he:e<(nd.getD (path.getD (path.length - 1) 0) []).length) {v:Nat} (hv:(nd.getD (path.getD (path.length - 1) 0) []).getD e 0=v) (hvn:v<nd.length) (hvb:bad.getD v false=false)
  (hR:dd ds v f=round.getD f 0 - path.length) (hl:∀q,q<e->¬ (bad.getD ((nd.getD (path.getD (path.length - 1) 0) []).getD q 0) false=false/\dd ds ((nd.getD (path.getD (path.length - 1) 0) []).getD q 0) f=round.getD f 0 - path.length)):Cir nd bad ds round f (path++[v]):=by
 have hp:=s.pos
 have hlen:(path++[v]).length=path.length+1:=by simp
 refine ⟨by omega,by rw [aX _ _ hp];exact s.head,fun x hx=>?_,fun k hk=>?_,fun k hk h0=>?_,fun k hk=>?_⟩
 ·rcases List.mem_append.1 hx with h|h
  ·exact s.lt x h
  ·simp at h;subst h;exact ⟨hvn,hvb⟩
 ·rw [hlen] at hk
  by_cases h:k+1<path.length
  ·rw [aX _ _ h,aX _ _ (by omega)];exact s.edge k h
  ·have e1:k+1=path.length:=by omega
   have e2:k=path.length - 1:=by omega
   rw [aX _ _ (show k<path.length by omega),e1,gG,e2,<- hv]
   exact getD_mem _ _ _ he
 ·rw [hlen] at hk
  by_cases h:k<path.length
  ·rw [aX _ _ h];exact s.left k h h0
  ·obtain rfl:k=path.length:=by omega
   rw [gG];exact hR
 ·rw [hlen] at hk
  by_cases h:k+1<path.length
  ·rw [aX _ _ h,aX _ _ (by omega)];exact s.least k h
  ·have e1:k+1=path.length:=by omega
   have e2:k=path.length - 1:=by omega
   have e3:((k:Int)+1)=path.length:=by omega
   rw [aX _ _ (show k<path.length by omega),e1,gG,e3,e2]
   exact ⟨e,he,hv.symm,hl⟩
theorem Cir.some_ (g:Gr nd bad) (t:IsTable nd bad ds round) (s:Cir nd bad ds round f path) (h0:0<round.getD f 0) (hle:(path.length:Int)<=round.getD f 0) :
  ∃w∈nd.getD (path.getD (path.length - 1) 0) [],dd ds w f=round.getD f 0 - path.length:=by
 have hp:=s.pos
 obtain ⟨h1,h2⟩:=s.lt _ (getD_mem path (path.length - 1) 0 (by omega))
 have hf:=s.lt _ (getD_mem path 0 0 hp)
 rw [s.head] at hf
 by_cases e:path.length=1
 ·rw [e,Nat.sub_self,s.head]
  obtain ⟨j,hj,h3,h4⟩:=(t.circ g hf.1 hf.2).2 h0
  exact ⟨j,hj,by omega⟩
 ·have hl:=s.left (path.length - 1) (by omega) (by omega)
  obtain ⟨j,hj,h3⟩:=t.first g h1 h2 (round.getD f 0 - path.length).toNat f hf.1 (by omega)
  exact ⟨j,hj,by omega⟩
theorem Cir.next (g:Gr nd bad) (t:IsTable nd bad ds round) (s:Cir nd bad ds round f path) (hle:(path.length:Int)<round.getD f 0) :
  ∃w∈nd.getD (path.getD (path.length - 1) 0) [],bad.getD w false=false/\dd ds w f=round.getD f 0 - path.length:=by
 have hp:=s.pos
 obtain ⟨w,h1,h2⟩:=s.some_ g t (by omega) (by omega)
 have hf:=s.lt _ (getD_mem path 0 0 hp)
 rw [s.head] at hf
 refine ⟨w,h1,?_,h2⟩
 cases hb:bad.getD w false with
 | false=>rfl
 | true =>
  have:=t.stuck (g.lt _ w h1) hb (round.getD f 0 - path.length).toNat f hf.1 (by omega)
  subst this
  rw [hf.2] at hb;cases hb
theorem Cir.circ (g:Gr nd bad) (t:IsTable nd bad ds round) (s:Cir nd bad ds round f path) (hle:(path.length:Int)=round.getD f 0):IsCirc nd bad path.length (fun i=>path.getD (i % path.length) 0):=by
 have hp:=s.pos
 have hlt:∀i,i % path.length<path.length:=fun i=>Nat.mod_lt _ hp
 refine ⟨hp,fun i=>(s.lt _ (getD_mem path _ 0 (hlt i))).1,fun i=>(s.lt _ (getD_mem path _ 0 (hlt i))).2,fun i=>?_,fun i=>by simp⟩
 show path.getD ((i+1) % path.length) 0∈nd.getD (path.getD (i % path.length) 0) []
 have hi:=hlt i
 have e:=Nat.add_mod i 1 path.length
 by_cases h:i % path.length+1<path.length
 ·have e2:(i+1) % path.length=i % path.length+1:=by
   rw [<- Nat.mod_eq_of_lt h,Nat.mod_add_mod]
  rw [e2];exact s.edge _ h
 ·have e2:(i+1) % path.length=0:=by
   rw [<- Nat.mod_add_mod,show i % path.length+1=path.length by omega,Nat.mod_self]
  have e3:i % path.length=path.length - 1:=by omega
  rw [e2,e3,s.head]
  obtain ⟨w,h1,h2⟩:=s.some_ g t (by omega) (by omega)
  have hf:=s.lt _ (getD_mem path 0 0 hp)
  rw [s.head] at hf
  have hw:f=w:=((t.dist w (g.lt _ w h1)).zero f hf.1).1 (by unfold dd at h2;omega)
  rw [hw];exact h1
theorem Cir.nodup (t:IsTable nd bad ds round) (s:Cir nd bad ds round f path) (hle:(path.length:Int)<=round.getD f 0):∀i k,i<k->k<path.length->path.getD i 0≠path.getD k 0:=by
 intro i k hik hk e
 have hp:=s.pos
 have h1:=s.left k hk (by omega)
 by_cases h0:i=0
 ·subst h0
  have hf:=s.lt _ (getD_mem path 0 0 hp)
  rw [s.head] at hf e
  rw [<- e] at h1
  have:=((t.dist f hf.1).zero f hf.1).2 rfl
  unfold dd at h1
  omega
 ·have h2:=s.left i (by omega) (by omega)
  rw [e] at h2
  omega
theorem Cir.above (g:Gr nd bad) (t:IsTable nd bad ds round) (s:Cir nd bad ds round f path) (hle:(path.length:Int)=round.getD f 0) (hf:FirstC round nd.length f):∀x∈path,f<=x:=by
 intro x hx
 obtain ⟨k,hk,rfl⟩:=gQ 0 hx
 have hc:=s.circ g t hle
 have h1:=t.knows g hc k
 have h2:=hc.lt k
 simp only [Nat.mod_eq_of_lt hk] at h1 h2
 rcases hf with ⟨h,_⟩|⟨q,h3,h4,h5,h6⟩
 ·omega
 ·obtain rfl:f=q:=by omega
  have:=h6 _ h2 h1.1
  omega
theorem RR.shortest (g:Gr nd bad) (t:IsTable nd bad ds round) (hrest:∀v,v<nd.length->∃x,IsRest bad (ds.getD v []) round nd.length nd.length x) {total:Int} (h:RR nd bad ds round i [] total) (w:IsWit nd bad i path):total+1<=path.length:=by
 have hp:=w.pos
 have hex:∀v,v<nd.length->∀pre,∃r,RR nd bad ds round v pre r:=fun v hv=>RR.exists (by obtain ⟨x,hx⟩:=hrest v hv;exact ⟨x,RR.rest hx⟩)
 have hpre:∀k,∀x∈path.take k,x<nd.length:=fun k x hx=>by
  obtain ⟨q,hq,rfl⟩:=gQ 0 (List.mem_of_mem_take hx)
  exact w.lt q hq
 have key:∀m k,k+m+1=path.length->∀r,RR nd bad ds round (path.getD k 0) (path.take k) r->r<=m:=by
  intro m
  induction m with
  | zero =>
   intro k hk r hr
   have h1:=(w.ends k (by omega)).2 (by omega)
   have:=(hr.done t (w.lt k (by omega)) (hpre k)).2 h1
   omega
  | succ m ih =>
   intro k hk r hr
   have h1:¬ (bad.getD (path.getD k 0) false=true\/path.getD k 0∈path.take k):=fun h=>by have:=(w.ends k (by omega)).1 h;omega
   have hb:bad.getD (path.getD k 0) false=false:=by
    cases hb:bad.getD (path.getD k 0) false with
    | false=>rfl
    | true=>exact absurd (.inl hb) h1
   have he:=w.edge k (by omega)
   obtain ⟨s,hs⟩:=hex (path.getD (k+1) 0) (w.lt _ (by omega)) (path.take (k+1))
   have h2:=ih (k+1) (by omega) s hs
   rw [aT path k 0 (by omega)] at hs
   have h3:=hr.step1 g t (w.lt k (by omega)) hb (hpre k) he hs
   omega
 have:=key (path.length - 1) 0 (by omega) total (by rw [w.head];simpa using h)
 omega
end
end Go.Proofs.Ytjlidhijnohkbaa
