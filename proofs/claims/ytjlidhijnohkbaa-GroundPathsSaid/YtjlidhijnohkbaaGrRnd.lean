import Derived.Test.YtjlidhijnohkbaaGrSrchP
import Derived.Test.YtjlidhijnohkbaaGrWitQ
import Derived.Test.YtjlidhijnohkbaaHlW
set_option linter.unusedSimpArgs false
set_option linter.unusedVariables false
section
namespace Go.Proofs.Ytjlidhijnohkbaa
structure BegC (nd:List (List Nat)) (bad:List Bool) (i:Nat) (path:List Nat):Prop where
 pos:0<path.length
 head:path.getD 0 0=i
 lt:∀k,k<path.length->path.getD k 0<nd.length/\bad.getD (path.getD k 0) false=false
 edge:∀k,k+1<path.length->path.getD (k+1) 0∈nd.getD (path.getD k 0) []
section
variable {nd:List (List Nat)} {bad:List Bool} {ds:List (List Int)} {round rank:List Int} {i f n k:Nat} {path w:List Nat}
theorem BegC.one (hi:i<nd.length) (hb:bad.getD i false=false):BegC nd bad i [i] :=
 ⟨by simp, rfl, fun k hk => by obtain rfl : k = 0 := by simpa using hk
                               exact ⟨hi,hb⟩,fun k hk=>by simp at hk⟩
theorem BegC.add (g:Gr nd bad) (s:BegC nd bad i path) {v:Nat} (hb:bad.getD v false=false) (hv:v∈nd.getD (iC path) []):BegC nd bad i (path++[v]):=by
 have hp:=s.pos
 have hlen:(path++[v]).length=path.length+1:=by simp
 refine ⟨by omega,by rw [aX _ _ hp];exact s.head,fun k hk=>?_,fun k hk=>?_⟩
 ·rw [hlen] at hk
  by_cases e:k<path.length
  ·rw [aX _ _ e];exact s.lt k e
  ·obtain rfl:k=path.length:=by omega
   rw [gG];exact ⟨g.lt _ _ hv,hb⟩
 ·rw [hlen] at hk
  by_cases e:k+1<path.length
  ·rw [aX _ _ e,aX _ _ (by omega)];exact s.edge k e
  ·have e1:k+1=path.length:=by omega
   have e2:k=path.length - 1:=by omega
   rw [aX _ _ (show k<path.length by omega),e1,gG,e2];exact hv
theorem BegC.circ (s:BegC nd bad i path) (h:path.getD 0 0∈nd.getD (iC path) []):IsCirc nd bad path.length (fun i=>path.getD (i % path.length) 0):=by
 have hp:=s.pos
 have hlt:∀i,i % path.length<path.length:=fun i=>Nat.mod_lt _ hp
 refine ⟨hp,fun i=>(s.lt _ (hlt i)).1,fun i=>(s.lt _ (hlt i)).2,fun i=>?_,fun i=>by simp⟩
 show path.getD ((i+1) % path.length) 0∈nd.getD (path.getD (i % path.length) 0) []
 have hi:=hlt i
 by_cases e:i % path.length+1<path.length
 ·have e2:(i+1) % path.length=i % path.length+1:=by
   rw [<- Nat.mod_eq_of_lt e,Nat.mod_add_mod]
  rw [e2];exact s.edge _ e
 ·have e2:(i+1) % path.length=0:=by
   rw [<- Nat.mod_add_mod,show i % path.length+1=path.length by omega,Nat.mod_self]
  have e3:i % path.length=path.length - 1:=by omega
  rw [e2,e3];exact h
theorem Fv (g:Gr nd bad):∀ (f:Nat) (path:List Nat),BegC nd bad i path->CB nd bad f path≠[]->BegC nd bad i (CB nd bad f path)/\(CB nd bad f path).getD 0 0∈nd.getD (iC (CB nd bad f path)) []/\(CB nd bad f path).length=path.length+f/\(CB nd bad f path).take path.length=path:=by
 intro f
 induction f with
 | zero =>
  intro path s h
  rw [CB] at h ⊢
  split at h
  ·rename_i e
   rw [if_pos e]
   exact ⟨s,e,rfl,List.take_length⟩
  ·exact absurd rfl h
 | succ f ih =>
  intro path s h
  rw [CB] at h ⊢
  obtain ⟨v,h1,h2⟩:=pI h
  rw [h2] at h ⊢
  split at h
  ·exact absurd rfl h
  ·rename_i e
   rw [if_neg e]
   have hb:bad.getD v false=false:=by
    cases hb:bad.getD v false with
    | false=>rfl
    | true=>exact absurd (.inr (.inl hb)) e
   obtain ⟨a,b,c,d⟩:=ih _ (s.add g hb h1) h
   refine ⟨a,b,by rw [c,List.length_append];simp;omega,?_⟩
   have:=congrArg (List.take path.length) d
   rw [List.take_take] at this
   simpa using this
theorem IsCirc.tight (g:Gr nd bad) (t:IsTable nd bad ds round) {c:Nat->Nat} (h:IsCirc nd bad n c) (hn:round.getD (c 0) 0=n):∀k,k<n->0<k->dd ds (c k) (c 0)=n - k:=by
 have lo:∀k,k<n->0<k->(n:Int) - k<=dd ds (c k) (c 0):=by
  intro k
  induction k with
  | zero=>intro _ h0;cases h0
  | succ k ih =>
   intro hk _
   have hw:=t.walk h (k+1) (n - (k+1))
   rw [show k+1+(n - (k+1))=0+n by omega,h.back] at hw
   by_cases e:k=0
   ·subst e
    have:=(t.circ g (h.lt 0) (h.good 0)).1 _ (h.edge 0) hw.1
    rw [Nat.zero_add] at hw this ⊢
    omega
   ·have h1:=ih (by omega) (by omega)
    have h2:=t.step g (h.lt k) (h.good k) (h.edge k) (dd ds (c (k+1)) (c 0)).toNat (c 0) (h.lt 0) (by omega)
    omega
 intro k hk h0
 have hw:=t.walk h k (n - k)
 rw [show k+(n - k)=0+n by omega,h.back] at hw
 have:=lo k hk h0
 omega
theorem O6 (g:Gr nd bad) (t:IsTable nd bad ds round) (s:Cir nd bad ds round i path) (hl:(path.length:Int)=round.getD i 0) (hf:FirstC round nd.length i):∀ (f k:Nat),k+f=path.length->0<k->CB nd bad f (path.take k)=path:=by
 have hpos:=s.pos
 have hlen:∀k,k<=path.length->(path.take k).length=k:=fun k hk=>by simp;omega
 have hg:∀k q,q<k->(path.take k).getD q 0=path.getD q 0:=fun k q hq=>by
  rw [List.getD_eq_getElem?_getD,List.getElem?_take_of_lt hq,<- List.getD_eq_getElem?_getD]
 have hlast:∀k,0<k->k<=path.length->iC (path.take k)=path.getD (k - 1) 0:=fun k h0 hk=>by
  unfold iC
  rw [hlen k hk,hg k _ (by omega)]
 have beg:∀k,0<k->k<=path.length->BegC nd bad i (path.take k):=fun k h0 hk =>
  ⟨by rw [hlen k hk];exact h0,by rw [hg k 0 h0];exact s.head,
   fun q hq=>by rw [hlen k hk] at hq;rw [hg k q hq];exact s.lt _ (getD_mem path q 0 (by omega)),
   fun q hq=>by rw [hlen k hk] at hq;rw [hg k q (by omega),hg k _ hq];exact s.edge q (by omega)⟩
 have hc:=s.circ g t hl
 intro f
 induction f with
 | zero =>
  intro k hk h0
  obtain rfl:k=path.length:=by omega
  have he:=hc.edge (path.length - 1)
  try simp only at he
  rw [show path.length - 1+1=path.length by omega,Nat.mod_self,Nat.mod_eq_of_lt (show path.length - 1<path.length by omega)] at he
  rw [CB,List.take_length,if_pos (by unfold iC;exact he)]
 | succ f ih =>
  intro k hk h0
  rw [CB]
  obtain ⟨e,h1,h2,h3⟩:=s.least (k - 1) (by omega)
  rw [show k - 1+1=k by omega] at h2
  rw [show ((k - 1:Nat):Int)+1=k by omega] at h3
  have hb:=beg k h0 (by omega)
  have hx:path.take k++[path.getD k 0]=path.take (k+1):=(aT path k 0 (by omega)).symm
  have hnext:CB nd bad f (path.take k++[path.getD k 0])=path:=by rw [hx];exact ih (k+1) (by omega) (by omega)
  have hl2:=hlast k h0 (by omega)
  have hkm:=getD_mem path k 0 (by omega)
  have hok:¬ (path.getD k 0<=(path.take k).getD 0 0\/bad.getD (path.getD k 0) false=true\/path.getD k 0∈path.take k):=by
   rw [hg k 0 h0,s.head]
   rintro (h|h|h)
   ·have a:=s.above g t hl hf _ hkm
    have b:=s.nodup t (by omega) 0 k h0 (by omega)
    rw [s.head] at b
    omega
   ·rw [(s.lt _ hkm).2] at h;cases h
   ·obtain ⟨q,hq,e⟩:=gQ 0 h
    rw [hlen k (by omega)] at hq
    rw [hg k q hq] at e
    exact s.nodup t (by omega) q k hq (by omega) e
  rw [hl2]
  have hat:(if (nd.getD (path.getD (k - 1) 0) []).getD e 0<=(path.take k).getD 0 0\/bad.getD ((nd.getD (path.getD (k - 1) 0) []).getD e 0) false=true\/(nd.getD (path.getD (k - 1) 0) []).getD e 0∈path.take k then [] else CB nd bad f (path.take k++[(nd.getD (path.getD (k - 1) 0) []).getD e 0]))=path:=by
   rw [<- h2,if_neg hok,hnext]
  rw [uO (e:=e) h1 (fun q hq=>?_) (by rw [hat];exact fun h=>by rw [h] at hpos;cases hpos),hat]
  apply Classical.byContradiction
  intro hn
  try simp only at hn
  split at hn
  ·exact hn rfl
  ·rename_i hq2
   have hqb:bad.getD ((nd.getD (path.getD (k - 1) 0) []).getD q 0) false=false:=by
    cases hb:bad.getD ((nd.getD (path.getD (k - 1) 0) []).getD q 0) false with
    | false=>rfl
    | true=>exact absurd (.inr (.inl hb)) hq2
   have hm:=getD_mem (nd.getD (path.getD (k - 1) 0) []) q 0 (by omega)
   obtain ⟨a,b,c,d⟩:=Fv g f _ (hb.add g hqb (v:=(nd.getD (path.getD (k - 1) 0) []).getD q 0) (by rw [hl2];exact hm)) hn
   rw [List.length_append,hlen k (by omega),List.length_singleton] at c d
   have hcc:=a.circ b
   obtain ⟨p2,hp2⟩:∃p2,CB nd bad f (path.take k++[(nd.getD (path.getD (k - 1) 0) []).getD q 0])=p2:=⟨_,rfl⟩
   rw [hp2] at a b c d hcc
   have c1:=congrArg (fun l=>l.getD k 0) d
   try simp only at c1
   rw [List.getD_eq_getElem?_getD,List.getElem?_take_of_lt (by omega),<- List.getD_eq_getElem?_getD] at c1
   have c2:(path.take k++[(nd.getD (path.getD (k - 1) 0) []).getD q 0]).getD k 0=(nd.getD (path.getD (k - 1) 0) []).getD q 0:=by
    have:=gG (path.take k) ((nd.getD (path.getD (k - 1) 0) []).getD q 0)
    rwa [hlen k (by omega)] at this
   rw [c2] at c1
   have hti:=hcc.tight g t (by simp only [Nat.zero_mod];rw [a.head];omega) k (by omega) h0
   simp only [Nat.zero_mod] at hti
   rw [Nat.mod_eq_of_lt (by omega),a.head,c1] at hti
   exact h3 q hq ⟨hqb,by rw [hti];omega⟩
theorem F8 (g:Gr nd bad) (t:IsTable nd bad ds round) {j:Nat} (hj:j<nd.length) (hb:bad.getD j false=false) (hne:CB nd bad n [j]≠[]):0<round.getD j 0/\round.getD j 0<=(n:Int)+1:=by
 obtain ⟨a,b,c,_⟩:=Fv g n [j] (BegC.one hj hb) hne
 have hc:=a.circ b
 have:=t.knows g hc 0
 simp only [Nat.zero_mod] at this
 rw [a.head,c,List.length_singleton] at this
 omega
end
end Go.Proofs.Ytjlidhijnohkbaa
end
section
namespace Go.Proofs.Ytjlidhijnohkbaa
open Go.RowKit Go.HL
end Go.Proofs.Ytjlidhijnohkbaa
end
