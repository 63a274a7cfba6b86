import Derived.Test.YtjlidhijnohkbaaGrRnd
import Derived.Test.YtjlidhijnohkbaaGrWitQ
import Derived.Test.YtjlidhijnohkbaaHlRo
import Derived.Test.YtjlidhijnohkbaaHlW
set_option linter.unusedSimpArgs false
set_option linter.unusedVariables false
section
namespace Go.Proofs.Ytjlidhijnohkbaa
open Go.RowKit Go.HL
theorem Fa (l:List (List Int)):aN (aO l)=[]:=by
 induction l with
 | nil=>rfl
 | cons a l ih =>
  show HV.deep (.sl a.length (HL.ints a))++aN (aO l)=[]
  rw [ih]
  unfold HV.deep
  simp [A7]
end Go.Proofs.Ytjlidhijnohkbaa
end
section
namespace Go.Proofs.Ytjlidhijnohkbaa
def freeRow (nd:List (List Nat)) (bad:List Bool) (i:Nat):List Nat:=if bad.getD i false=true then [] else (nd.getD i []).filter fun j=>!bad.getD j false
def Gt (nd:List (List Nat)) (bad:List Bool) (m:Nat):List (List Nat):=(List.range m).map (freeRow nd bad)
section
variable {nd:List (List Nat)} {bad:List Bool} {ds:List (List Int)} {round rank:List Int} {i n m:Nat} {c:Nat->Nat} {path out:List Nat}
theorem BH (nd:List (List Nat)) (bad:List Bool) (m:Nat):(Gt nd bad m).length=m:=by simp [Gt]
theorem JI (nd:List (List Nat)) (bad:List Bool) {m k:Nat} (h:k<m):(Gt nd bad m).getD k []=freeRow nd bad k:=by simp [Gt,h]
theorem freeRow_mem {j:Nat}:j∈freeRow nd bad i <-> bad.getD i false=false/\j∈nd.getD i []/\bad.getD j false=false:=by
 unfold freeRow
 cases h:bad.getD i false with
 | true=>simp
 | false=>simp
theorem zi (n i:Nat):(List.replicate n false).getD i false=false:=by
 rw [List.getD_eq_getElem?_getD,List.getElem?_replicate]
 split<;>rfl
theorem IsRank.circ (g:Gr nd bad) (hR:IsRank (Gt nd bad nd.length) (List.replicate nd.length false) rank) (hi:i<nd.length) (h0:rank.getD i 0<0):∃m c,IsCirc nd bad m c:=by
 classical
 have low:∀u,u<nd.length->rank.getD u 0<0->rank.getD u 0 = -1:=fun u hu h=>by
  have:=(hR.low u (by rw [BH];exact hu)).1
  omega
 have step:∀u,u<nd.length/\rank.getD u 0<0->∃v,(v<nd.length/\rank.getD v 0<0)/\v∈freeRow nd bad u:=fun u hu=>by
  rcases hR.out u (by rw [BH];exact hu.1) (low u hu.1 hu.2) with h|⟨j,h1,h2⟩
  ·rw [zi] at h;cases h
  ·rw [JI nd bad hu.1] at h1
   exact ⟨j,⟨g.lt u j (freeRow_mem.1 h1).2.1,by omega⟩,h1⟩
 let nx:{u // u<nd.length/\rank.getD u 0<0}->{u // u<nd.length/\rank.getD u 0<0}:=fun u=>⟨Classical.choose (step u.1 u.2),(Classical.choose_spec (step u.1 u.2)).1⟩
 have hnx:∀u,(nx u).1∈freeRow nd bad u.1:=fun u=>(Classical.choose_spec (step u.1 u.2)).2
 let w:Nat->{u // u<nd.length/\rank.getD u 0<0}:=fun k=>Nat.rec ⟨i,hi,h0⟩ (fun _ u=>nx u) k
 have hw:∀k,(w (k+1)).1∈freeRow nd bad (w k).1:=fun k=>hnx (w k)
 have twice:∃a b,a<b/\(w a).1=(w b).1:=by
  apply Classical.byContradiction
  intro hn
  have hnd:((List.range (nd.length+1)).map fun k=>(w k).1).Nodup:=by
   rw [List.nodup_iff_pairwise_ne,List.pairwise_map]
   refine List.pairwise_lt_range.imp fun {a b} hab e=>hn ⟨a,b,hab,e⟩
  have:=fA hnd (n:=nd.length) (fun u hu=>by
   obtain ⟨k,_,rfl⟩:=List.mem_map.1 hu
   exact (w k).2.1)
  simp at this
  omega
 obtain ⟨a,b,hab,he⟩:=twice
 have hm:0<b - a:=by omega
 refine ⟨b - a,fun k=>(w (a+k % (b - a))).1,hm,fun k=>(w _).2.1,fun k=>(freeRow_mem.1 (hw (a+k % (b - a)))).1,fun k=>?_,fun k=>by simp⟩
 have h1:=freeRow_mem.1 (hw (a+k % (b - a)))
 show (w (a+(k+1) % (b - a))).1∈nd.getD (w (a+k % (b - a))).1 []
 have hk:=Nat.mod_lt k hm
 by_cases hlt:k % (b - a)+1<b - a
 ·have e2:(k+1) % (b - a)=k % (b - a)+1:=by
   rw [<- Nat.mod_eq_of_lt hlt,Nat.mod_add_mod]
  rw [e2];exact h1.2.1
 ·have e2:(k+1) % (b - a)=0:=by
   rw [<- Nat.mod_add_mod,show k % (b - a)+1=b - a by omega,Nat.mod_self]
  rw [e2,Nat.add_zero,he]
  have e3:a+k % (b - a)+1=b:=by omega
  have h2:=h1.2.1
  rw [e3] at h2
  exact h2
theorem CirRes.good (g:Gr nd bad) (s:CirRes nd bad path) (hi:i<path.length):path.getD 0 0<=path.getD i 0/\path.getD i 0<nd.length/\bad.getD (path.getD i 0) false=false/\path.getD i 0 ∉ path.take i/\path.getD ((i+1) % path.length) 0∈nd.getD (path.getD i 0) []:=by
 obtain ⟨ds,round,t,h1⟩:=s
 rcases h1 with ⟨rfl,h4⟩|⟨f,h4,h5,h6⟩
 ·cases hi
 ·have hm:=getD_mem path i 0 hi
  have hc:=(h5.circ g t h6).edge i
  simp only [Nat.mod_eq_of_lt hi] at hc
  refine ⟨by rw [h5.head];exact h5.above g t h6 h4 _ hm,(h5.lt _ hm).1,(h5.lt _ hm).2,fun h=>?_,hc⟩
  obtain ⟨q,hq,e⟩:=gQ 0 h
  rw [List.length_take] at hq
  rw [List.getD_eq_getElem?_getD,List.getElem?_take_of_lt (by omega),<- List.getD_eq_getElem?_getD] at e
  exact h5.nodup t (by omega) q i (by omega) hi e
def RefC (nd:List (List Nat)) (bad:List Bool) (out:List Nat):Prop :=
 (out=[]/\∀q,q<nd.length->∀i,i<nd.length->bad.getD i false=false->CB nd bad q [i]=[]) \/
 ∃q i,q<nd.length/\i<nd.length/\bad.getD i false=false/\out=CB nd bad q [i]/\out≠[]/\(∀q',q'<q->∀i',i'<nd.length->bad.getD i' false=false->CB nd bad q' [i']=[])/\∀i',i'<i->bad.getD i' false=false->CB nd bad q [i']=[]
theorem RefC.eq (g:Gr nd bad) (s:CirRes nd bad path) (r:RefC nd bad out):out=path:=by
 have hlong:path.length<=nd.length:=by
  have hnd:path.Nodup:=by
   rw [List.nodup_iff_pairwise_ne,List.pairwise_iff_getElem]
   intro a b ha hb hab e
   have:=(s.good g hb).2.2.2.1
   apply this
   rw [List.getD_eq_getElem?_getD,List.getElem?_eq_getElem hb,Option.getD_some,<- e]
   exact List.mem_take_iff_getElem.2 ⟨a,by omega,rfl⟩
  exact fA hnd (fun u hu=>by obtain ⟨k,hk,rfl⟩:=gQ 0 hu;exact (s.good g hk).2.1)
 obtain ⟨ds,round,t,h1⟩:=s
 rcases h1 with ⟨rfl,h4⟩|⟨f,h4,h5,h6⟩
 ·rcases r with ⟨h,_⟩|⟨q,i,hq,hi,hb,e,hne,_⟩
  ·exact h
  ·exfalso
   rw [e] at hne
   have:=F8 g t hi hb hne
   have:=h4 i hi
   omega
 ·have hf:=h5.lt _ (getD_mem path 0 0 h5.pos)
  rw [h5.head] at hf
  have hr:=O6 g t h5 h6 h4 (path.length - 1) 1 (by have:=h5.pos;omega) (by omega)
  have ht1:path.take 1=[f]:=by
   have:=aT path 0 0 h5.pos
   rw [List.take_zero,h5.head] at this
   simpa using this
  rw [ht1] at hr
  have hpos:=h5.pos
  have hpne:path≠[]:=fun h=>by rw [h] at hpos;cases hpos
  have fmin:∀u,u<nd.length->0<round.getD u 0->round.getD f 0<round.getD u 0\/(round.getD f 0=round.getD u 0/\f<=u):=by
   rcases h4 with ⟨h,_⟩|⟨q,h7,h8,h9,h10⟩
   ·omega
   ·obtain rfl:f=q:=by omega
    exact h10
  rcases r with ⟨_,h⟩|⟨q,i,hq,hi,hb,e,hne,hl1,hl2⟩
  ·exfalso
   have:=h (path.length - 1) (by omega) f hf.1 hf.2
   rw [hr] at this;exact hpne this
  ·have hne':=hne
   rw [e] at hne'
   have h7:=F8 g t hi hb hne'
   have h8:=fmin i hi h7.1
   have h9:path.length - 1<=q:=by omega
   have hq2:q=path.length - 1:=by
    rcases Nat.lt_or_ge (path.length - 1) q with h|h
    ·exfalso
     have:=hl1 _ h f hf.1 hf.2
     rw [hr] at this;exact hpne this
    ·omega
   subst hq2
   have h10:f<=i:=by
    rcases h8 with h8|h8
    ·omega
    ·exact h8.2
   have hfi:i=f:=by
    rcases Nat.lt_or_ge f i with h|h
    ·exfalso
     have:=hl2 f h hf.2
     rw [hr] at this;exact hpne this
    ·omega
   subst hfi
   rw [e];exact hr
end
end Go.Proofs.Ytjlidhijnohkbaa
end
