import Derived.Test.YtjlidhijnohkbaaGrCirP
import Derived.Test.YtjlidhijnohkbaaGrBig
set_option linter.unusedSimpArgs false
set_option linter.unusedVariables false
namespace Go.Proofs.Ytjlidhijnohkbaa
def CirRes (nd:List (List Nat)) (bad:List Bool) (path:List Nat):Prop :=
 ∃ds round,IsTable nd bad ds round/\((path=[]/\∀u,u<nd.length->round.getD u 0<=0)\/∃f:Nat,FirstC round nd.length f/\Cir nd bad ds round f path/\(path.length:Int)=round.getD f 0)
structure IsRev (nd:List (List Nat)) (bad:List Bool) (nd':List (List Nat)) (bad':List Bool):Prop where
 len:nd'.length=nd.length
 bad_:∀i,i<nd.length->bad'.getD (nd.length - 1 - i) false=bad.getD i false
 need:∀i,i<nd.length->∀j,j<nd.length->(nd.length - 1 - j∈nd'.getD (nd.length - 1 - i) [] <-> j∈nd.getD i [])
section
variable {nd nd':List (List Nat)} {bad bad':List Bool} {path path':List Nat} {i n m:Nat} {c:Nat->Nat} {rank:List Int}
theorem CirRes.least (g:Gr nd bad) (s:CirRes nd bad path) (h:IsCirc nd bad m c):0<path.length/\path.length<=m:=by
 obtain ⟨ds,round,t,h1⟩:=s
 have h2:=t.knows g h 0
 have h3:=h.lt 0
 rcases h1 with ⟨rfl,h4⟩|⟨f,h4,h5,h6⟩
 ·have:=h4 _ h3;omega
 ·refine ⟨h5.pos,?_⟩
  rcases h4 with ⟨h,_⟩|⟨q,h7,h8,h9,h10⟩
  ·omega
  ·obtain rfl:f=q:=by omega
   have:=h10 _ h3 h2.1
   omega
theorem CirRes.circ (g:Gr nd bad) (s:CirRes nd bad path) (h0:0<path.length):∃c,IsCirc nd bad path.length c:=by
 obtain ⟨ds,round,t,h1⟩:=s
 rcases h1 with ⟨rfl,h4⟩|⟨f,h4,h5,h6⟩
 ·cases h0
 ·exact ⟨_,h5.circ g t h6⟩
theorem IsRev.symm (g:Gr nd bad) (s:IsRev nd bad nd' bad'):IsRev nd' bad' nd bad:=by
 have hl:=s.len
 refine ⟨by omega,fun i hi=>?_,fun i hi j hj=>?_⟩
 ·rw [hl] at hi ⊢
  have:=s.bad_ (nd.length - 1 - i) (by omega)
  rw [show nd.length - 1 - (nd.length - 1 - i)=i by omega] at this
  exact this.symm
 ·rw [hl] at hi hj ⊢
  have:=s.need (nd.length - 1 - i) (by omega) (nd.length - 1 - j) (by omega)
  rw [show nd.length - 1 - (nd.length - 1 - i)=i by omega,show nd.length - 1 - (nd.length - 1 - j)=j by omega] at this
  exact this.symm
theorem qQ {l:List Nat} (f:Nat->Nat) {k:Nat} (h:k<l.length):(l.map f).getD k 0=f (l.getD k 0):=by simp [h]
theorem IsRev.wit (s:IsRev nd bad nd' bad') (w:IsWit nd bad i path):IsWit nd' bad' (nd.length - 1 - i) (path.map fun x=>nd.length - 1 - x):=by
 have hp:=w.pos
 refine ⟨by simpa using hp,by rw [qQ _ hp,w.head],fun k hk=>?_,fun k hk=>?_,fun k hk=>?_⟩
 ·rw [List.length_map] at hk
  rw [qQ _ hk,s.len]
  have:=w.lt k hk
  omega
 ·rw [List.length_map] at hk
  rw [qQ _ hk,qQ _ (show k<path.length by omega)]
  exact (s.need _ (w.lt k (by omega)) _ (w.lt _ hk)).2 (w.edge k hk)
 ·rw [List.length_map] at hk ⊢
  rw [qQ _ hk,s.bad_ _ (w.lt k hk),<- w.ends k hk,<- List.map_take]
  refine or_congr Iff.rfl ?_
  rw [List.mem_map]
  constructor
  ·rintro ⟨a,h1,h2⟩
   obtain ⟨q,hq,hq2⟩:=gQ 0 (List.mem_of_mem_take h1)
   have h3:=w.lt q hq
   have h4:=w.lt k hk
   rw [hq2] at h3
   have:a=path.getD k 0:=by omega
   rw [<- this];exact h1
  ·intro h;exact ⟨_,h,rfl⟩
theorem IsRev.circ (s:IsRev nd bad nd' bad') (h:IsCirc nd bad m c):IsCirc nd' bad' m (fun i=>nd.length - 1 - c i):=by
 refine ⟨h.pos,fun i=>?_,fun i=>?_,fun i=>?_,fun i=>by show _ - _ - c (i+m)=_;rw [h.back]⟩
 ·have:=h.lt i
  rw [s.len]
  show nd.length - 1 - c i<_
  omega
 ·show bad'.getD (nd.length - 1 - c i) false=false
  rw [s.bad_ _ (h.lt i)];exact h.good i
 ·exact (s.need _ (h.lt i) _ (h.lt _)).2 (h.edge i)
theorem ve (l:List Int) {k:Nat} (h:k<l.length):l.reverse.getD (l.length - 1 - k) 0=l.getD k 0:=by
 rw [List.getD_eq_getElem?_getD,List.getD_eq_getElem?_getD,List.getElem?_reverse (by omega),show l.length - 1 - (l.length - 1 - k)=k by omega]
theorem IsRev.rank_ (g:Gr nd bad) (g':Gr nd' bad') (s:IsRev nd bad nd' bad') (h:IsRank nd bad rank):IsRank nd' bad' rank.reverse:=by
 have hl:=s.len
 have hr:=h.len
 have tr:∀u,u<nd'.length->∃v,v<nd.length/\u=nd.length - 1 - v/\rank.reverse.getD u 0=rank.getD v 0:=fun u hu=>by
  refine ⟨nd.length - 1 - u,by omega,by omega,?_⟩
  have:=ve rank (k:=nd.length - 1 - u) (by omega)
  rw [hr,show nd.length - 1 - (nd.length - 1 - u)=u by omega] at this
  exact this
 have back:∀v,v<nd.length->rank.reverse.getD (nd.length - 1 - v) 0=rank.getD v 0:=fun v hv=>by
  have:=ve rank (k:=v) (by omega)
  rw [hr] at this;exact this
 refine ⟨by rw [List.length_reverse];omega,fun u hu=>?_,fun u hu h0=>?_,fun u hu h0=>?_⟩
 ·obtain ⟨v,h1,h2,h3⟩:=tr u hu
  rw [h3,hl];exact h.low v h1
 ·obtain ⟨v,h1,rfl,h3⟩:=tr u hu
  rw [h3] at h0 ⊢
  obtain ⟨a,b,c⟩:=h.in_ v h1 h0
  refine ⟨by rw [s.bad_ v h1];exact a,fun j hj=>?_,?_⟩
  ·obtain ⟨w,k1,rfl,k3⟩:=tr j (g'.lt _ j hj)
   rw [k3]
   exact b w ((s.need v h1 w k1).1 hj)
  ·rcases c with ⟨c1,c2⟩|⟨j,c1,c2⟩
   ·refine .inl ⟨?_,c2⟩
    apply List.eq_nil_iff_forall_not_mem.2
    intro j hj
    obtain ⟨w,k1,rfl,k3⟩:=tr j (g'.lt _ j hj)
    have:=(s.need v h1 w k1).1 hj
    rw [c1] at this;cases this
   ·have hjn:=g.lt v j c1
    exact .inr ⟨_,(s.need v h1 j hjn).2 c1,by rw [back j hjn];exact c2⟩
 ·obtain ⟨v,h1,rfl,h3⟩:=tr u hu
  rw [h3] at h0
  rcases h.out v h1 h0 with a|⟨j,c1,c2⟩
  ·exact .inl (by rw [s.bad_ v h1];exact a)
  ·have hjn:=g.lt v j c1
   exact .inr ⟨_,(s.need v h1 j hjn).2 c1,by rw [back j hjn];exact c2⟩
def turnRow (n:Nat) (l:List Nat):List Nat:=l.foldl (fun x j=>jd x (n - 1 - j)) []
theorem Ei (n:Nat):∀ (l acc:List Nat) (x:Nat),x∈l.foldl (fun x j=>jd x (n - 1 - j)) acc <-> x∈acc\/∃j∈l,x=n - 1 - j:=by
 intro l
 induction l with
 | nil=>simp
 | cons a l ih =>
  intro acc x
  rw [List.foldl_cons,ih,zH]
  simp only [List.mem_cons]
  constructor
  ·rintro ((h|h)|⟨j,h1,h2⟩)
   ·exact .inr ⟨a,.inl rfl,h⟩
   ·exact .inl h
   ·exact .inr ⟨j,.inr h1,h2⟩
  ·rintro (h|⟨j,rfl|h1,h2⟩)
   ·exact .inl (.inr h)
   ·exact .inl (.inl h2)
   ·exact .inr ⟨j,h1,h2⟩
theorem EX (n:Nat) (l:List Nat) (x:Nat):x∈turnRow n l <-> ∃j∈l,x=n - 1 - j:=by
 unfold turnRow;rw [Ei n];simp
theorem yu (n:Nat):∀ (l acc:List Nat),acc.Pairwise (·<·)->(l.foldl (fun x j=>jd x (n - 1 - j)) acc).Pairwise (·<·):=by
 intro l
 induction l with
 | nil=>intro acc h;exact h
 | cons a l ih=>intro acc h;rw [List.foldl_cons];exact ih _ (xN _ h)
theorem qI (n:Nat) (l:List Nat):(turnRow n l).Pairwise (·<·):=yu n l [] List.Pairwise.nil
theorem Ed (n:Nat) (l:List Nat) (j:Nat):turnRow n (l++[j])=jd (turnRow n l) (n - 1 - j):=by
 unfold turnRow;rw [List.foldl_append];rfl
theorem xU (n:Nat) (l:List Nat):(turnRow n l).length<=l.length:=by
 have h:∀ (l acc:List Nat),(l.foldl (fun x j=>jd x (n - 1 - j)) acc).length<=acc.length+l.length:=by
  intro l
  induction l with
  | nil=>intro acc;simp
  | cons a l ih =>
   intro acc
   have h1:=ih (jd acc (n - 1 - a))
   have h2:=FD acc (n - 1 - a)
   simp only [List.foldl_cons,List.length_cons]
   omega
 have:=h l []
 simpa [turnRow] using this
end
end Go.Proofs.Ytjlidhijnohkbaa
