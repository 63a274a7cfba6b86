import Derived.Test.YtjlidhijnohkbaaCodesGroundWitnesses
import Derived.Test.YtjlidhijnohkbaaGrCclP
import Derived.Test.YtjlidhijnohkbaaGrRanE
import Derived.Test.YtjlidhijnohkbaaGrWitQ
import Derived.Test.YtjlidhijnohkbaaGrLives
import Derived.Test.YtjlidhijnohkbaaHlW
set_option linter.unusedSimpArgs false
set_option linter.unusedVariables false
namespace Go.Proofs.Ytjlidhijnohkbaa
open Go.RowKit Go.HL
def RefW (nd:List (List Nat)) (bad:List Bool) (i:Nat) (out:List Nat):Prop :=
 (out=[]/\∀q,q<=nd.length->lY nd bad (q+1) q [i]=[])\/∃q,q<=nd.length/\out=lY nd bad (q+1) q [i]/\out≠[]/\∀q',q'<q->lY nd bad (q'+1) q' [i]=[]
theorem IsWit.few {nd:List (List Nat)} {bad:List Bool} {i:Nat} {path:List Nat} (w:IsWit nd bad i path):path.length<=nd.length+1:=by
 have hnd:(path.take (path.length - 1)).Nodup:=by
  rw [List.nodup_iff_pairwise_ne,zl079]
  intro a b ha hb hab e
  rw [gB] at ha hb
  have hn:¬ (bad.getD (path.getD b 0) false=true\/path.getD b 0∈path.take b):=fun h=>by have:=(w.ends b (by omega)).1 h;omega
  refine hn (.inr ?_)
  rw [List.getElem_take,List.getElem_take] at e
  rw [dW,dS (show b<path.length by omega),gV,<- e]
  exact List.mem_take_iff_getElem.2 ⟨a,by omega,rfl⟩
 have:=fA hnd (n:=nd.length) (fun u hu=>by
  obtain ⟨k,hk,rfl⟩:=gQ 0 (zN hu)
  exact w.lt k hk)
 rw [gB] at this
 omega
theorem RefW.none {nd:List (List Nat)} {bad:List Bool} {rank:List Int} {i:Nat} {out:List Nat} (g:Gr nd bad) (hR:IsRank nd bad rank) (hi:i<nd.length) (h0:0<=rank.getD i 0) (h:RefW nd bad i out):out=[]:=by
 rcases h with h|⟨q,_,h,hne,_⟩
 ·exact h.1
 ·rw [Jr g hR hi h0] at h;exact absurd h hne
theorem RefW.path {nd:List (List Nat)} {bad:List Bool} {ds:List (List Int)} {round rank:List Int} {i:Nat} {total:Int} {path out:List Nat} (g:Gr nd bad) (hi:i<nd.length) (t:IsTable nd bad ds round) (s:Pth nd bad ds round rank i total path) (hl:(path.length:Int)=total+1) (h:RefW nd bad i out):out=path:=by
 have hp:=s.pos
 have w:=s.wit t hl
 have hfew:=w.few
 have h1:path.take 1=[i]:=by
  cases path with
  | nil=>cases hp
  | cons a l=>have:=s.head;simp at this;simp [this]
 have hf:=MN g t s hl (path.length - 1) 1 (by omega) (by omega)
 rw [h1] at hf
 have hless:∀q,q+1<path.length->lY nd bad (q+1) q [i]=[]:=fun q hq=>KR g t hi s.start (by omega) q
 have hpe:path≠[]:=fun e=>by rw [e] at hp;cases hp
 rcases h with ⟨_,h⟩|⟨q,hq,h,hne,hmin⟩
 ·have:=h (path.length - 1) (by omega)
  rw [show path.length - 1+1=path.length by omega,hf] at this
  exact absurd this hpe
 ·rcases Nat.lt_trichotomy (q+1) path.length with h2|h2|h2
  ·rw [hless q h2] at h;exact absurd h hne
  ·obtain rfl:q=path.length - 1:=by omega
   rw [h,show path.length - 1+1=path.length by omega,hf]
  ·have:=hmin (path.length - 1) (by omega)
   rw [show path.length - 1+1=path.length by omega,hf] at this
   exact absurd this hpe
def QD (nd:List (List Nat)) (bad:List Bool) (k:Int) (out:List Nat):Prop :=
 (k<0\/(nd.length:Int)<=k)/\out=[]\/∃i:Nat,k=i/\i<nd.length/\∀o,RefW nd bad i o->o=out
theorem rO (nd:List (List Nat)) (bad:List Bool) (k:Int) (g:Gr nd bad):HT Try.prog 24 [Gs (nd.map nl),Bl bad,.int .i64 k] (fun r=>∃out,r=.osl 1 out.length (HL.ints (nl out))/\out.length<=nd.length+1/\QD nd bad k out):=by
 by_cases hk:k<0\/(nd.length:Int)<=k
 ·exact (uf nd bad k g (fun rank hR=>by omega)).mono fun r hr=>⟨[],hr,by simp,.inl ⟨hk,rfl⟩⟩
 ·obtain ⟨i,rfl⟩:∃i:Nat,k=i:=⟨k.toNat,by omega⟩
  have hi:i<nd.length:=by omega
  obtain ⟨rank,hR⟩:=IsRank.exists g
  by_cases h0:0<=rank.getD i 0
  ·refine (uf nd bad i g (fun rank' hR'=>?_)).mono fun r hr=>⟨[],hr,by simp,.inr ⟨i,rfl,hi,fun o ho=>ho.none g hR hi h0⟩⟩
   obtain rfl:=hR'.unique g hR
   right;right
   simpa using h0
  ·exact (He nd bad rank i g hR hi (by omega)).mono fun r ⟨ds,round,path,total,hr,hT,hP,hl⟩=>⟨path,hr,(hP.wit hT hl).few,.inr ⟨i,rfl,hi,fun o ho=>ho.path g hi hT hP hl⟩⟩
end Go.Proofs.Ytjlidhijnohkbaa
