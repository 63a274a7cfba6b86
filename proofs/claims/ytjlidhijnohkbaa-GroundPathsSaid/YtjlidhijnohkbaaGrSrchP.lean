import Derived.Test.YtjlidhijnohkbaaGrNumP
set_option linter.unusedSimpArgs false
set_option linter.unusedVariables false
namespace Go.Proofs.Ytjlidhijnohkbaa
def gK (h:Nat->List Nat):List Nat->List Nat
 | []=>[]
 | v::l=>if h v=[] then gK h l else h v
theorem pI {h:Nat->List Nat}:∀ {l:List Nat},gK h l≠[]->∃v∈l,gK h l=h v
 | [],a=>absurd rfl a
 | v::l,a=>by
  rw [gK] at a ⊢
  split at a
  ·rename_i e
   rw [if_pos e]
   obtain ⟨x,h1,h2⟩:=pI a
   exact ⟨x,by simp [h1],h2⟩
  ·rename_i e
   rw [if_neg e];exact ⟨v,by simp,rfl⟩
theorem uO {h:Nat->List Nat}:∀ {l:List Nat} {e:Nat},e<l.length->(∀q,q<e->h (l.getD q 0)=[])->h (l.getD e 0)≠[]->gK h l=h (l.getD e 0)
 | [],e,he,_,_=>absurd he (by simp)
 | v::l,0,_,_,h0=>by rw [gK,if_neg (by simpa using h0)];simp
 | v::l,e+1,he,a,h0=>by
  have h1:=a 0 (by omega)
  rw [List.getD_cons_zero] at h1
  rw [gK,if_pos h1,List.getD_cons_succ]
  exact uO (by simpa using he) (fun q hq=>by have:=a (q+1) (by omega);rwa [List.getD_cons_succ] at this) (by rwa [List.getD_cons_succ] at h0)
def iC (l:List Nat):Nat:=l.getD (l.length - 1) 0
def lY (nd:List (List Nat)) (bad:List Bool) (n:Nat):Nat->List Nat->List Nat
 | 0,path=>if (bad.getD (iC path) false=true\/iC path∈path.take (path.length - 1))/\path.length=n then path else []
 | f+1,path=>if bad.getD (iC path) false=true\/iC path∈path.take (path.length - 1) then (if path.length=n then path else []) else gK (fun v=>lY nd bad n f (path++[v])) (nd.getD (iC path) [])
def CB (nd:List (List Nat)) (bad:List Bool):Nat->List Nat->List Nat
 | 0,path=>if path.getD 0 0∈nd.getD (iC path) [] then path else []
 | f+1,path=>gK (fun v=>if v<=path.getD 0 0\/bad.getD v false=true\/v∈path then [] else CB nd bad f (path++[v])) (nd.getD (iC path) [])
structure Beg (nd:List (List Nat)) (bad:List Bool) (i:Nat) (path:List Nat):Prop where
 pos:0<path.length
 head:path.getD 0 0=i
 lt:∀k,k<path.length->path.getD k 0<nd.length
 edge:∀k,k+1<path.length->path.getD (k+1) 0∈nd.getD (path.getD k 0) []
 go:∀k,k+1<path.length->¬ (bad.getD (path.getD k 0) false=true\/path.getD k 0∈path.take k)
section
variable {nd:List (List Nat)} {bad:List Bool} {ds:List (List Int)} {round rank:List Int} {i f n k:Nat} {path w:List Nat} {total:Int}
theorem Beg.one (hi:i<nd.length):Beg nd bad i [i] :=
 ⟨by simp, rfl, fun k hk => by obtain rfl : k = 0 := by simpa using hk
                               exact hi,fun k hk=>by simp at hk,fun k hk=>by simp at hk⟩
theorem Beg.add (g:Gr nd bad) (s:Beg nd bad i path) (h:¬ (bad.getD (iC path) false=true\/iC path∈path.take (path.length - 1))) {v:Nat} (hv:v∈nd.getD (iC path) []):Beg nd bad i (path++[v]):=by
 have hp:=s.pos
 have hlen:(path++[v]).length=path.length+1:=by simp
 refine ⟨by omega,by rw [aX _ _ hp];exact s.head,fun k hk=>?_,fun k hk=>?_,fun k hk=>?_⟩
 ·rw [hlen] at hk
  by_cases e:k<path.length
  ·rw [aX _ _ e];exact s.lt k e
  ·obtain rfl:k=path.length:=by omega
   rw [gG];exact g.lt _ _ hv
 ·rw [hlen] at hk
  by_cases e:k+1<path.length
  ·rw [aX _ _ e,aX _ _ (by omega)];exact s.edge k e
  ·have e1:k+1=path.length:=by omega
   have e2:k=path.length - 1:=by omega
   rw [aX _ _ (show k<path.length by omega),e1,gG,e2];exact hv
 ·rw [hlen] at hk
  by_cases e:k+1<path.length
  ·rw [aX _ _ (by omega),kT _ _ (by omega)];exact s.go k e
  ·have e2:k=path.length - 1:=by omega
   rw [aX _ _ (by omega),kT _ _ (by omega),e2];exact h
theorem Beg.wit (s:Beg nd bad i path) (h:bad.getD (iC path) false=true\/iC path∈path.take (path.length - 1)):IsWit nd bad i path:=by
 have hp:=s.pos
 refine ⟨hp,s.head,s.lt,s.edge,fun k hk=>?_⟩
 by_cases e:k+1<path.length
 ·exact ⟨fun h=>absurd h (s.go k e),fun h=>by omega⟩
 ·have e2:k=path.length - 1:=by omega
  subst e2
  exact ⟨fun _=>by omega,fun _=>h⟩
theorem Af (g:Gr nd bad):∀ (f:Nat) (path:List Nat),Beg nd bad i path->lY nd bad n f path≠[]->IsWit nd bad i (lY nd bad n f path)/\(lY nd bad n f path).length=n/\(lY nd bad n f path).take path.length=path:=by
 intro f
 induction f with
 | zero =>
  intro path s h
  rw [lY] at h ⊢
  split at h
  ·rename_i e
   rw [if_pos e]
   exact ⟨s.wit e.1,e.2,List.take_length⟩
  ·exact absurd rfl h
 | succ f ih =>
  intro path s h
  rw [lY] at h ⊢
  split at h
  ·rename_i e
   rw [if_pos e]
   split at h
   ·rename_i e2
    rw [if_pos e2]
    exact ⟨s.wit e,e2,List.take_length⟩
   ·exact absurd rfl h
  ·rename_i e
   rw [if_neg e]
   obtain ⟨v,h1,h2⟩:=pI h
   rw [h2] at h ⊢
   obtain ⟨a,b,c⟩:=ih _ (s.add g e h1) h
   refine ⟨a,b,?_⟩
   have:=congrArg (List.take path.length) c
   rw [List.take_take] at this
   simpa using this
theorem RR.tight (g:Gr nd bad) (t:IsTable nd bad ds round) (hrest:∀v,v<nd.length->∃x,IsRest bad (ds.getD v []) round nd.length nd.length x) (h:RR nd bad ds round i [] total) (w:IsWit nd bad i path) (hl:(path.length:Int)=total+1) :
  ∀k,k<path.length->RR nd bad ds round (path.getD k 0) (path.take k) (total - k):=by
 have hp:=w.pos
 have hex:∀v,v<nd.length->∀pre,∃r,RR nd bad ds round v pre r:=fun v hv=>RR.exists (by obtain ⟨x,hx⟩:=hrest v hv;exact ⟨x,RR.rest hx⟩)
 have hpre:∀k,∀x∈path.take k,x<nd.length:=fun k x hx=>by
  obtain ⟨q,hq,rfl⟩:=gQ 0 (List.mem_of_mem_take hx)
  exact w.lt q hq
 have hb:∀k,k+1<path.length->bad.getD (path.getD k 0) false=false:=fun k hk=>by
  have h1:¬ (bad.getD (path.getD k 0) false=true\/path.getD k 0∈path.take k):=fun h=>by have:=(w.ends k (by omega)).1 h;omega
  cases hb:bad.getD (path.getD k 0) false with
  | false=>rfl
  | true=>exact absurd (.inl hb) h1
 have key:∀m k,k+m+1=path.length->∀r,RR nd bad ds round (path.getD k 0) (path.take k) r->r<=m:=by
  intro m
  induction m with
  | zero =>
   intro k hk r hr
   have h1:=(w.ends k (by omega)).2 (by omega)
   have:=(hr.done t (w.lt k (by omega)) (hpre k)).2 h1
   omega
  | succ m ih =>
   intro k hk r hr
   obtain ⟨s,hs⟩:=hex (path.getD (k+1) 0) (w.lt _ (by omega)) (path.take (k+1))
   have h2:=ih (k+1) (by omega) s hs
   rw [aT path k 0 (by omega)] at hs
   have h3:=hr.step1 g t (w.lt k (by omega)) (hb k (by omega)) (hpre k) (w.edge k (by omega)) hs
   omega
 intro k
 induction k with
 | zero=>intro _;rw [w.head];simpa using h
 | succ k ih =>
  intro hk
  have h0:=ih (by omega)
  obtain ⟨s,hs⟩:=hex (path.getD (k+1) 0) (w.lt _ hk) (path.take (k+1))
  have h2:=key (path.length - 1 - (k+1)) (k+1) (by omega) s hs
  have hs2:=hs
  rw [aT path k 0 (by omega)] at hs2
  have h3:=h0.step1 g t (w.lt k (by omega)) (hb k (by omega)) (hpre k) (w.edge k (by omega)) hs2
  have e:s=total - ((k+1:Nat):Int):=by omega
  rw [<- e];exact hs
theorem MN (g:Gr nd bad) (t:IsTable nd bad ds round) (s:Pth nd bad ds round rank i total path) (hl:(path.length:Int)=total+1):∀ (f k:Nat),k+f=path.length->0<k->lY nd bad path.length f (path.take k)=path:=by
 have hrest:∀v,v<nd.length->∃x,IsRest bad (ds.getD v []) round nd.length nd.length x:=fun v hv=>IsRest.ex t.round_.low _ (Nat.le_refl _)
 have w:=s.wit t hl
 have hlen:∀k,k<=path.length->(path.take k).length=k:=fun k hk=>by simp;omega
 have hlast:∀k,0<k->k<=path.length->iC (path.take k)=path.getD (k - 1) 0:=fun k h0 hk=>by
  unfold iC
  rw [hlen k hk,List.getD_eq_getElem?_getD,List.getElem?_take_of_lt (by omega),<- List.getD_eq_getElem?_getD]
 have htt:∀k,0<k->k<=path.length->(path.take k).take ((path.take k).length - 1)=path.take (k - 1):=fun k h0 hk=>by
  rw [hlen k hk,List.take_take,Nat.min_eq_left (by omega)]
 have beg:∀k,0<k->k<=path.length->Beg nd bad i (path.take k):=fun k h0 hk=>by
  have hg:∀q,q<k->(path.take k).getD q 0=path.getD q 0:=fun q hq=>by
   rw [List.getD_eq_getElem?_getD,List.getElem?_take_of_lt hq,<- List.getD_eq_getElem?_getD]
  refine ⟨by rw [hlen k hk];exact h0,by rw [hg 0 h0];exact w.head,fun q hq=>?_,fun q hq=>?_,fun q hq=>?_⟩
  ·rw [hlen k hk] at hq;rw [hg q hq];exact w.lt q (by omega)
  ·rw [hlen k hk] at hq;rw [hg q (by omega),hg _ hq];exact w.edge q (by omega)
  ·rw [hlen k hk] at hq
   rw [hg q (by omega),List.take_take,Nat.min_eq_left (by omega),w.ends q (by omega)];omega
 have ends_:∀k,0<k->k<=path.length->((bad.getD (iC (path.take k)) false=true\/iC (path.take k)∈(path.take k).take ((path.take k).length - 1)) <-> k=path.length):=fun k h0 hk=>by
  rw [hlast k h0 hk,htt k h0 hk,w.ends (k - 1) (by omega)];omega
 intro f
 induction f with
 | zero =>
  intro k hk h0
  obtain rfl:k=path.length:=by omega
  rw [lY,if_pos ⟨(ends_ _ h0 (Nat.le_refl _)).2 rfl,by simp⟩,List.take_length]
 | succ f ih =>
  intro k hk h0
  have he:=ends_ k h0 (by omega)
  have hne:¬ (bad.getD (iC (path.take k)) false=true\/iC (path.take k)∈(path.take k).take ((path.take k).length - 1)):=fun h=>by have:=he.1 h;omega
  rw [lY,if_neg hne]
  obtain ⟨e,h1,h2,h3⟩:=s.least (k - 1) (by omega)
  rw [show k - 1+1=k by omega] at h2 h3
  have hb:=beg k h0 (by omega)
  have hx:path.take k++[path.getD k 0]=path.take (k+1):=(aT path k 0 (by omega)).symm
  have hnext:lY nd bad path.length f (path.take k++[path.getD k 0])=path:=by rw [hx];exact ih (k+1) (by omega) (by omega)
  have hl2:=hlast k h0 (by omega)
  rw [hl2]
  have hp:=w.pos
  rw [uO (e:=e) h1 (fun q hq=>?_) (by rw [<- h2,hnext];exact fun h=>by rw [h] at hp;cases hp),<- h2,hnext]
  apply Classical.byContradiction
  intro hn
  have hm:=getD_mem (nd.getD (path.getD (k - 1) 0) []) q 0 (by omega)
  have hb2:=hb.add g hne (v:=(nd.getD (path.getD (k - 1) 0) []).getD q 0) (by rw [hl2];exact hm)
  obtain ⟨a,b,c⟩:=Af (n:=path.length) g f _ hb2 hn
  have hti:=RR.tight g t hrest s.start a (by rw [b];exact hl) k (by rw [b];omega)
  rw [List.length_append,hlen k (by omega),List.length_singleton] at c
  have c1:=congrArg (fun l=>l.getD k 0) c
  try simp only at c1
  rw [List.getD_eq_getElem?_getD,List.getElem?_take_of_lt (by omega),<- List.getD_eq_getElem?_getD] at c1
  have c2:(path.take k++[(nd.getD (path.getD (k - 1) 0) []).getD q 0]).getD k 0=(nd.getD (path.getD (k - 1) 0) []).getD q 0:=by
   have:=gG (path.take k) ((nd.getD (path.getD (k - 1) 0) []).getD q 0)
   rwa [hlen k (by omega)] at this
  rw [c2] at c1
  have c3:=congrArg (List.take k) c
  rw [List.take_take,Nat.min_eq_left (by omega),kT _ _ (by rw [hlen k (by omega)];exact Nat.le_refl _),List.take_take,Nat.min_self] at c3
  rw [c1,c3] at hti
  exact h3 q hq (by rw [show (((k - 1:Nat):Int)+1)=k by omega];exact hti)
theorem KR (g:Gr nd bad) (t:IsTable nd bad ds round) (hi:i<nd.length) (h:RR nd bad ds round i [] total) (hn:(n:Int)<total+1) (f:Nat):lY nd bad n f [i]=[]:=by
 apply Classical.byContradiction
 intro hne
 obtain ⟨a,b,_⟩:=Af (n:=n) g f [i] (Beg.one hi) hne
 have:=RR.shortest g t (fun v hv=>IsRest.ex t.round_.low _ (Nat.le_refl _)) h a
 omega
theorem IsWit.open_ (hR:IsRank nd bad rank) (w:IsWit nd bad i path) (h0:0<=rank.getD i 0):False:=by
 have hp:=w.pos
 have key:∀k,k<path.length->0<=rank.getD (path.getD k 0) 0/\∀q,q<k->rank.getD (path.getD k 0) 0<rank.getD (path.getD q 0) 0:=by
  intro k
  induction k with
  | zero=>intro _;rw [w.head];exact ⟨h0,fun q hq=>absurd hq (by omega)⟩
  | succ k ih =>
   intro hk
   obtain ⟨a,b⟩:=ih (by omega)
   have h1:=(hR.in_ _ (w.lt k (by omega)) a).2.1 _ (w.edge k hk)
   refine ⟨h1.1,fun q hq=>?_⟩
   by_cases e:q=k
   ·subst e;exact h1.2
   ·have:=b q (by omega);omega
 obtain ⟨a,b⟩:=key (path.length - 1) (by omega)
 rcases (w.ends (path.length - 1) (by omega)).2 (by omega) with h|h
 ·have:=(hR.in_ _ (w.lt _ (by omega)) a).1
  rw [this] at h;cases h
 ·obtain ⟨q,hq,e⟩:=gQ 0 h
  rw [List.length_take] at hq
  rw [List.getD_eq_getElem?_getD,List.getElem?_take_of_lt (by omega),<- List.getD_eq_getElem?_getD] at e
  have:=b q (by omega)
  rw [e] at this
  omega
theorem Jr (g:Gr nd bad) (hR:IsRank nd bad rank) (hi:i<nd.length) (h0:0<=rank.getD i 0) (f:Nat):lY nd bad n f [i]=[]:=by
 apply Classical.byContradiction
 intro hne
 exact (Af (n:=n) g f [i] (Beg.one hi) hne).1.open_ hR h0
end
end Go.Proofs.Ytjlidhijnohkbaa
