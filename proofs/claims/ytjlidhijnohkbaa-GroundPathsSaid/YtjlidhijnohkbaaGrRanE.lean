import Derived.Test.YtjlidhijnohkbaaGrBig
import Derived.Test.YtjlidhijnohkbaaHlW
import Derived.Test.YtjlidhijnohkbaaGrCclP
import Derived.Test.YtjlidhijnohkbaaGrRnd
import Derived.Test.YtjlidhijnohkbaaGrW
import Derived.Test.YtjlidhijnohkbaaGrPlain
set_option linter.unusedSimpArgs false
set_option linter.unusedVariables false
section
namespace Go.Proofs.Ytjlidhijnohkbaa
open Go.RowKit Go.HL
end Go.Proofs.Ytjlidhijnohkbaa
end
section
namespace Go.Proofs.Ytjlidhijnohkbaa
def InR (nd:List (List Nat)) (bad:List Bool):Nat->Nat->Prop
 | 0,_=>False
 | k+1,u=>bad.getD u false=false/\∀j∈nd.getD u [],InR nd bad k j
section
variable {nd:List (List Nat)} {bad:List Bool}
theorem InR.succ:∀ {k u:Nat},InR nd bad k u->InR nd bad (k+1) u
 | 0,_,h=>h.elim
 | k+1,u,h=>⟨h.1,fun j hj=>InR.succ (k:=k) (h.2 j hj)⟩
theorem InR.le {k m u:Nat} (h:InR nd bad k u) (hm:k<=m):InR nd bad m u:=by
 induction m with
 | zero => obtain rfl : k = 0 := by omega
           exact h
 | succ m ih =>
  by_cases e:k=m+1
  ·subst e;exact h
  ·exact (ih (by omega)).succ
theorem NS {p:Nat->Prop}:∀ (k:Nat),p k->∃m,p m/\∀q,q<m->¬ p q:=by
 intro k
 induction k using Nat.strongRecOn with
 | _ k ih =>
  intro h
  by_cases e:∃q,q<k/\p q
  ·obtain ⟨q,h1,h2⟩:=e;exact ih q h1 h2
  ·exact ⟨k,h,fun q hq hp=>e ⟨q,hq,hp⟩⟩
theorem Nv (l:List Nat) (p:Nat->Nat->Prop) (up:∀a k m,p k a->k<=m->p m a) (h:∀a∈l,∃k,p k a):∃m,∀a∈l,p m a:=by
 induction l with
 | nil=>exact ⟨0,by simp⟩
 | cons a l ih =>
  obtain ⟨k,hk⟩:=h a (by simp)
  obtain ⟨m,hm⟩:=ih fun b hb=>h b (by simp [hb])
  refine ⟨max k m,fun b hb=>?_⟩
  rcases List.mem_cons.1 hb with rfl|hb
  ·exact up _ _ _ hk (Nat.le_max_left _ _)
  ·exact up _ _ _ (hm b hb) (Nat.le_max_right _ _)
theorem IsRank.exists (g:Gr nd bad):∃rank,IsRank nd bad rank:=by
 classical
 have hr:∀u,∃r:Int,(r = -1/\∀k,¬ InR nd bad k u)\/∃k:Nat,r=k/\InR nd bad (k+1) u/\¬ InR nd bad k u:=fun u=>by
  by_cases h:∃k,InR nd bad k u
  ·obtain ⟨k,hk⟩:=h
   obtain ⟨m,h1,h2⟩:=NS (p:=fun k=>InR nd bad k u) k hk
   cases m with
   | zero=>exact h1.elim
   | succ m=>exact ⟨m,.inr ⟨m,rfl,h1,h2 m (by omega)⟩⟩
  ·exact ⟨-1,.inl ⟨rfl,fun k hk=>h ⟨k,hk⟩⟩⟩
 obtain ⟨f,hf⟩:=Classical.axiomOfChoice hr
 have hget:∀u,u<nd.length->((List.range nd.length).map f).getD u 0=f u:=fun u hu=>by simp [hu]
 have inn:∀u,u<nd.length->0<=f u->bad.getD u false=false/\(∀j∈nd.getD u [],0<=f j/\f j<f u)/\(nd.getD u []=[]/\f u=0\/∃j∈nd.getD u [],f j=f u - 1):=fun u hu h0=>by
  rcases hf u with ⟨h,_⟩|⟨k,h1,h2,h3⟩
  ·omega
  ·have lt:∀j∈nd.getD u [],0<=f j/\f j<f u:=fun j hj=>by
    have hj2:=h2.2 j hj
    rcases hf j with ⟨_,h⟩|⟨m,m1,_,m3⟩
    ·exact absurd hj2 (h k)
    ·have:¬ k<=m:=fun hle=>m3 (hj2.le hle)
     omega
   refine ⟨h2.1,lt,?_⟩
   cases k with
   | zero =>
    refine .inl ⟨?_,by simpa using h1⟩
    cases hn:nd.getD u [] with
    | nil=>rfl
    | cons a l=>have:=h2.2 a (by rw [hn];simp);exact this.elim
   | succ k =>
    right
    apply Classical.byContradiction
    intro hno
    refine h3 ⟨h2.1,fun j hj=>?_⟩
    apply Classical.byContradiction
    intro hn
    refine hno ⟨j,hj,?_⟩
    have:=lt j hj
    rcases hf j with ⟨h,_⟩|⟨m,m1,m2,_⟩
    ·omega
    ·have:¬ m+1<=k:=fun hle=>hn (m2.le hle)
     omega
 have chain:∀ (k:Nat) u,u<nd.length->f u=k->∃l:List Nat,l.Nodup/\(∀y∈l,y<nd.length/\f y<=k)/\l.length=k+1:=by
  intro k
  induction k with
  | zero=>intro u hu h;exact ⟨[u],by simp,by simp [hu,h],rfl⟩
  | succ k ih =>
   intro u hu h
   rcases (inn u hu (by omega)).2.2 with ⟨_,h2⟩|⟨j,hj,h2⟩
   ·omega
   ·obtain ⟨l,a,b,c⟩:=ih j (g.lt u j hj) (by omega)
    refine ⟨u::l,List.nodup_cons.2 ⟨fun hm=>by have:=(b u hm).2;omega,a⟩,fun y hy=>?_,by simp [c]⟩
    rcases List.mem_cons.1 hy with rfl|hy
    ·exact ⟨hu,by omega⟩
    ·have:=b y hy;exact ⟨this.1,by omega⟩
 refine ⟨(List.range nd.length).map f,by simp,fun u hu=>?_,fun u hu h=>?_,fun u hu h=>?_⟩
 ·rw [hget u hu]
  rcases hf u with ⟨h,_⟩|⟨k,h1,_,_⟩
  ·omega
  ·obtain ⟨l,a,b,c⟩:=chain k u hu h1
   have:=fA a fun y hy=>(b y hy).1
   omega
 ·rw [hget u hu] at h ⊢
  obtain ⟨a,b,c⟩:=inn u hu h
  refine ⟨a,fun j hj=>by rw [hget j (g.lt u j hj)];exact b j hj,?_⟩
  rcases c with c|⟨j,hj,c⟩
  ·exact .inl c
  ·exact .inr ⟨j,hj,by rw [hget j (g.lt u j hj)];exact c⟩
 ·rw [hget u hu] at h
  rcases hf u with ⟨_,h2⟩|⟨k,h1,_,_⟩
  ·cases hb:bad.getD u false with
   | true=>exact .inl rfl
   | false =>
    right
    apply Classical.byContradiction
    intro hno
    obtain ⟨m,hm⟩:=Nv (nd.getD u []) (InR nd bad) (fun a k m h hle=>h.le hle) fun j hj=>by
     rcases hf j with ⟨h3,_⟩|⟨k,_,h3,_⟩
     ·exact absurd ⟨j,hj,by rw [hget j (g.lt u j hj)];exact h3⟩ hno
     ·exact ⟨k+1,h3⟩
    exact h2 (m+1) ⟨hb,hm⟩
  ·omega
end
end Go.Proofs.Ytjlidhijnohkbaa
end
