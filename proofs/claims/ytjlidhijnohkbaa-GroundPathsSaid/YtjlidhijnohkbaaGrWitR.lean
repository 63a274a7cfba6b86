import Derived.Test.YtjlidhijnohkbaaGrRest
set_option linter.unusedSimpArgs false
set_option linter.unusedVariables false
namespace Go.Proofs.Ytjlidhijnohkbaa
section
variable {nd:List (List Nat)} {bad:List Bool} {ds:List (List Int)} {round:List Int}
def dd (ds:List (List Int)) (v x:Nat):Int:=(ds.getD v []).getD x 0
theorem IsTable.step (g:Gr nd bad) (t:IsTable nd bad ds round) {v j:Nat} (hv:v<nd.length) (hb:bad.getD v false=false) (hj:j∈nd.getD v []):∀ (m x:Nat),x<nd.length->dd ds j x=m->0<=dd ds v x/\dd ds v x<=m+1:=by
 have hjn:=g.lt v j hj
 have dv:=t.dist v hv
 have dj:=t.dist j hjn
 intro m
 induction m with
 | zero =>
  intro x hx e
  obtain rfl:=(dj.zero x hx).1 e
  have:=dv.cl v hv (by have:=(dv.zero v hv).2 rfl;omega) hb x hj
  have h0:=(dv.zero v hv).2 rfl
  unfold dd
  omega
 | succ m ih =>
  intro x hx e
  obtain ⟨k,hk,h1,h2,h3,h4⟩:=dj.par x hx (by unfold dd at e;omega)
  obtain ⟨a,b⟩:=ih k hk (by unfold dd at e ⊢;omega)
  have:=dv.cl k hk a h1 x h2
  unfold dd at *
  omega
theorem IsTable.first (g:Gr nd bad) (t:IsTable nd bad ds round) {v:Nat} (hv:v<nd.length) (hb:bad.getD v false=false):∀ (m x:Nat),x<nd.length->dd ds v x=(m:Int)+1->∃j∈nd.getD v [],dd ds j x=m:=by
 have dv:=t.dist v hv
 intro m
 induction m with
 | zero =>
  intro x hx e
  obtain ⟨k,hk,h1,h2,h3,h4⟩:=dv.par x hx (by unfold dd at e;omega)
  obtain rfl:=(dv.zero k hk).1 (by unfold dd at e;omega)
  exact ⟨x,h2,((t.dist x hx).zero x hx).2 rfl⟩
 | succ m ih =>
  intro x hx e
  obtain ⟨k,hk,h1,h2,h3,h4⟩:=dv.par x hx (by unfold dd at e;omega)
  obtain ⟨j,hj,h5⟩:=ih k hk (by unfold dd at e ⊢;omega)
  have hjn:=g.lt v j hj
  have h6:=(t.dist j hjn).cl k hk (by unfold dd at h5;omega) h1 x h2
  refine ⟨j,hj,?_⟩
  have h7:=t.step g hv hb hj (dd ds j x).toNat x hx (by unfold dd at *;omega)
  unfold dd at *
  omega
theorem IsTable.stuck (t:IsTable nd bad ds round) {v:Nat} (hv:v<nd.length) (hb:bad.getD v false=true):∀ (m x:Nat),x<nd.length->dd ds v x=m->x=v:=by
 have dv:=t.dist v hv
 intro m
 induction m with
 | zero=>intro x hx e;exact (dv.zero x hx).1 e
 | succ m ih =>
  intro x hx e
  obtain ⟨k,hk,h1,h2,h3,h4⟩:=dv.par x hx (by unfold dd at e;omega)
  obtain rfl:=ih k hk (by unfold dd at e ⊢;omega)
  rw [hb] at h1;cases h1
theorem IsTable.circ (g:Gr nd bad) (t:IsTable nd bad ds round) {v:Nat} (hv:v<nd.length) (hb:bad.getD v false=false) :
  (∀j∈nd.getD v [],0<=dd ds j v->0<round.getD v 0/\round.getD v 0<=dd ds j v+1)/\(0<round.getD v 0->∃j∈nd.getD v [],0<=dd ds j v/\round.getD v 0=dd ds j v+1):=by
 have dv:=t.dist v hv
 have hgt:∀u,v∈nd.getD u []->u<nd.length:=fun u h=>by
  apply Classical.byContradiction
  intro hn
  have:nd.getD u []=[]:=by rw [List.getD_eq_getElem?_getD,List.getElem?_eq_none (by omega)];rfl
  rw [this] at h;cases h
 refine ⟨fun j hj h0=>?_,fun h=>?_⟩
 ·have hjn:=g.lt v j hj
  by_cases e:dd ds j v=0
  ·have hjv:v=j:=(((t.dist j hjn).zero v hv).1 e)
   subst hjv
   have:=t.round_.least v hv v hj ⟨hb,hb,by have:=(dv.zero v hv).2 rfl;omega⟩
   have h1:=(dv.zero v hv).2 rfl
   unfold dd at *
   omega
  ·obtain ⟨u,hu,h1,h2,h3,h4⟩:=(t.dist j hjn).par v hv (by unfold dd at *;omega)
   obtain ⟨a,b⟩:=t.step g hv hb hj (dd ds j u).toNat u hu (by unfold dd at *;omega)
   have:=t.round_.least v hv u h2 ⟨h1,hb,by unfold dd at a;exact a⟩
   unfold dd at *
   omega
 ·obtain ⟨u,h1,h2,h3⟩:=t.round_.from_ v hv h
  have hu:=hgt u h1
  obtain ⟨b1,_,b3⟩:=h2
  by_cases e:(ds.getD v []).getD u 0=0
  ·obtain rfl:=(dv.zero u hu).1 e
   exact ⟨u,h1,by have:=(dv.zero u hu).2 rfl;unfold dd;omega,by have:=(dv.zero u hu).2 rfl;unfold dd;omega⟩
  ·obtain ⟨j,hj,h4⟩:=t.first g hv hb ((ds.getD v []).getD u 0 - 1).toNat u hu (by unfold dd;omega)
   have hjn:=g.lt v j hj
   have h5:=(t.dist j hjn).cl u hu (by unfold dd at h4;omega) b1 v h1
   refine ⟨j,hj,by unfold dd;omega,?_⟩
   have h6:round.getD v 0<=dd ds j v+1:=by
    by_cases e2:dd ds j v=0
    ·have hjv:v=j:=(((t.dist j hjn).zero v hv).1 e2)
     subst hjv
     have:=t.round_.least v hv v hj ⟨hb,hb,by have:=(dv.zero v hv).2 rfl;omega⟩
     have h1:=(dv.zero v hv).2 rfl
     unfold dd at *
     omega
    ·obtain ⟨w,hw,k1,k2,k3,k4⟩:=(t.dist j hjn).par v hv (by unfold dd at *;omega)
     obtain ⟨a,b⟩:=t.step g hv hb hj (dd ds j w).toNat w hw (by unfold dd at *;omega)
     have:=t.round_.least v hv w k2 ⟨k1,hb,by unfold dd at a;exact a⟩
     unfold dd at *
     omega
   unfold dd at *
   omega
end
structure RR (nd:List (List Nat)) (bad:List Bool) (ds:List (List Int)) (round:List Int) (v:Nat) (path:List Nat) (r:Int):Prop where
 top:r<=2*nd.length
 low:0<=r
 all:∀u,u<nd.length->0<=dd ds v u->ends bad round u->r<=dd ds v u+round.getD u 0
 back:∀x∈path,0<=dd ds v x->r<=dd ds v x
 one:r=2*nd.length\/(∃u,u<nd.length/\0<=dd ds v u/\ends bad round u/\r=dd ds v u+round.getD u 0)\/∃x∈path,0<=dd ds v x/\r=dd ds v x
section
variable {nd:List (List Nat)} {bad:List Bool} {ds:List (List Int)} {round rank:List Int} {v p:Nat} {path prev:List Nat} {r s:Int}
theorem RR.unique (a:RR nd bad ds round v path r) (b:RR nd bad ds round v path s):r=s:=by
 have h1:r<=s:=by
  rcases b.one with h|⟨u,h1,h2,h3,h4⟩|⟨x,h1,h2,h3⟩
  ·have:=a.top;omega
  ·have:=a.all u h1 h2 h3;omega
  ·have:=a.back x h1 h2;omega
 have h2:s<=r:=by
  rcases a.one with h|⟨u,h1,h2,h3,h4⟩|⟨x,h1,h2,h3⟩
  ·have:=b.top;omega
  ·have:=b.all u h1 h2 h3;omega
  ·have:=b.back x h1 h2;omega
 omega
theorem RR.rest (a:IsRest bad (ds.getD v []) round nd.length nd.length r):RR nd bad ds round v [] r :=
 ⟨a.top,a.low,a.all,by simp,by rcases a.one with h|h;exact .inl h;exact .inr (.inl h)⟩
theorem RR.add (a:RR nd bad ds round v path r) (x:Nat):RR nd bad ds round v (path++[x]) (if 0<=dd ds v x then (if dd ds v x<r then dd ds v x else r) else r):=by
 have ht:=a.top
 have hl:=a.low
 refine ⟨by split<;>(try split)<;>omega,by split<;>(try split)<;>omega,fun u h1 h2 h3=>?_,fun y hy h0=>?_,?_⟩
 ·have:=a.all u h1 h2 h3
  split<;>(try split)<;>omega
 ·rcases List.mem_append.1 hy with hy|hy
  ·have:=a.back y hy h0
   split<;>(try split)<;>omega
  ·simp at hy;subst hy
   rw [if_pos h0];split<;>omega
 ·have old:r=2*nd.length\/(∃u,u<nd.length/\0<=dd ds v u/\ends bad round u/\r=dd ds v u+round.getD u 0)\/∃y∈path++[x],0<=dd ds v y/\r=dd ds v y:=by
   rcases a.one with h|h|⟨y,h1,h2⟩
   ·exact .inl h
   ·exact .inr (.inl h)
   ·exact .inr (.inr ⟨y,by simp [h1],h2⟩)
  split
  ·split
   ·rename_i h0 _;exact .inr (.inr ⟨x,by simp,h0,rfl⟩)
   ·exact old
  ·exact old
theorem RR.exists (hr:∃r,RR nd bad ds round v [] r):∀path:List Nat,∃r,RR nd bad ds round v path r:=by
 have h:∀ (l pre:List Nat),(∃r,RR nd bad ds round v pre r)->∃r,RR nd bad ds round v (pre++l) r:=by
  intro l
  induction l with
  | nil=>intro pre h;simpa using h
  | cons a l ih =>
   intro pre ⟨r,h⟩
   have:=ih (pre++[a]) ⟨_,h.add a⟩
   simpa using this
 intro path
 simpa using h path [] hr
theorem IsTable.badRound (t:IsTable nd bad ds round) (hp:p<nd.length) (hb:bad.getD p false=true):round.getD p 0=0:=by
 have h0:=t.round_.low p hp
 apply Classical.byContradiction
 intro hn
 obtain ⟨u,h1,h2,h3⟩:=t.round_.from_ p hp (by omega)
 rw [h2.2.1] at hb;cases hb
theorem RR.done (t:IsTable nd bad ds round) (hp:p<nd.length) (hpath:∀x∈prev,x<nd.length) (a:RR nd bad ds round p prev r):r=0 <-> (bad.getD p false=true\/p∈prev):=by
 have hpp:dd ds p p=0:=((t.dist p hp).zero p hp).2 rfl
 constructor
 ·intro h
  rcases a.one with h1|⟨u,h1,h2,h3,h4⟩|⟨x,h1,h2,h3⟩
  ·omega
  ·have h5:=t.round_.low u h1
   have h6:dd ds p u=0:=by omega
   obtain rfl:=((t.dist p hp).zero u h1).1 h6
   rcases h3 with h3|h3
   ·exact .inl h3
   ·omega
  ·right
   have h6:dd ds p x=0:=by omega
   rw [<- ((t.dist p hp).zero x (hpath x h1)).1 h6];exact h1
 ·intro h
  have hl:=a.low
  rcases h with h|h
  ·have:=a.all p hp (by omega) (.inl h)
   have:=t.badRound hp h
   omega
  ·have:=a.back p h (by omega)
   omega
theorem RR.step1 (g:Gr nd bad) (t:IsTable nd bad ds round) (hp:p<nd.length) (hb:bad.getD p false=false) (hpath:∀x∈prev,x<nd.length) (a:RR nd bad ds round p prev r) {w:Nat} (hw:w∈nd.getD p []) (b:RR nd bad ds round w (prev++[p]) s):r<=s+1:=by
 have ht:=a.top
 rcases b.one with h|⟨u,h1,h2,h3,h4⟩|⟨x,h1,h2,h3⟩
 ·omega
 ·obtain ⟨k1,k2⟩:=t.step g hp hb hw (dd ds w u).toNat u h1 (by omega)
  have:=a.all u h1 k1 h3
  omega
 ·rcases List.mem_append.1 h1 with h1|h1
  ·obtain ⟨k1,k2⟩:=t.step g hp hb hw (dd ds w x).toNat x (hpath x h1) (by omega)
   have:=a.back x h1 k1
   omega
  ·simp at h1;subst h1
   obtain ⟨k1,k2⟩:=(t.circ g hp hb).1 w hw h2
   have hpp:dd ds x x=0:=((t.dist x hp).zero x hp).2 rfl
   have:=a.all x hp (by omega) (.inr k1)
   omega
theorem RR.step2 (g:Gr nd bad) (t:IsTable nd bad ds round) (hp:p<nd.length) (hb:bad.getD p false=false) (hpath:∀x∈prev,x<nd.length) (hnp:p ∉ prev) (a:RR nd bad ds round p prev r) (hfin:r<2*nd.length) (hex:∀w,w<nd.length->∃s,RR nd bad ds round w (prev++[p]) s) :
  ∃w∈nd.getD p [],RR nd bad ds round w (prev++[p]) (r - 1):=by
 have fin:∀w∈nd.getD p [],(∀s,RR nd bad ds round w (prev++[p]) s->s<=r - 1)->∃w∈nd.getD p [],RR nd bad ds round w (prev++[p]) (r - 1):=fun w hw h=>by
  obtain ⟨s,hs⟩:=hex w (g.lt p w hw)
  have h1:=h s hs
  have h2:=a.step1 g t hp hb hpath hw hs
  have:s=r - 1:=by omega
  subst this
  exact ⟨w,hw,hs⟩
 rcases a.one with h|⟨u,h1,h2,h3,h4⟩|⟨x,h1,h2,h3⟩
 ·omega
 ·by_cases e:dd ds p u=0
  ·obtain rfl:=((t.dist p hp).zero u h1).1 e
   have hpos:0<round.getD u 0:=by
    rcases h3 with h3|h3
    ·rw [hb] at h3;cases h3
    ·exact h3
   obtain ⟨j,hj,k1,k2⟩:=(t.circ g hp hb).2 hpos
   exact fin j hj fun s hs=>by have:=hs.back u (by simp) k1;omega
  ·obtain ⟨j,hj,k⟩:=t.first g hp hb (dd ds p u - 1).toNat u h1 (by omega)
   exact fin j hj fun s hs=>by have:=hs.all u h1 (by omega) h3;omega
 ·have hx:=hpath x h1
  by_cases e:dd ds p x=0
  ·obtain rfl:=((t.dist p hp).zero x hx).1 e
   exact absurd h1 hnp
  ·obtain ⟨j,hj,k⟩:=t.first g hp hb (dd ds p x - 1).toNat x hx (by omega)
   exact fin j hj fun s hs=>by have:=hs.back x (by simp [h1]) (by omega);omega
theorem IsTable.ground (g:Gr nd bad) (t:IsTable nd bad ds round) (hR:IsRank nd bad rank) (hv:v<nd.length) (h0:0<=rank.getD v 0):∀ (m x:Nat),x<nd.length->dd ds v x=m->0<=rank.getD x 0/\rank.getD x 0<=rank.getD v 0:=by
 intro m
 induction m with
 | zero=>intro x hx e;obtain rfl:=((t.dist v hv).zero x hx).1 e;omega
 | succ m ih =>
  intro x hx e
  obtain ⟨k,hk,h1,h2,h3,h4⟩:=(t.dist v hv).par x hx (by unfold dd at e;omega)
  obtain ⟨a,b⟩:=ih k hk (by unfold dd at e ⊢;omega)
  have:=(hR.in_ k hk a).2.1 x h2
  omega
theorem RR.open_ (g:Gr nd bad) (t:IsTable nd bad ds round) (hR:IsRank nd bad rank) (hv:v<nd.length) (hpath:∀x∈path,x<nd.length/\rank.getD x 0<0) (a:RR nd bad ds round v path r) (hfin:r<2*nd.length):rank.getD v 0<0:=by
 apply Classical.byContradiction
 intro hn
 have h0:0<=rank.getD v 0:=by omega
 rcases a.one with h|⟨u,h1,h2,h3,h4⟩|⟨x,h1,h2,h3⟩
 ·omega
 ·obtain ⟨k1,k2⟩:=t.ground g hR hv h0 (dd ds v u).toNat u h1 (by omega)
  have hub:=(hR.in_ u h1 k1).1
  rcases h3 with h3|h3
  ·rw [hub] at h3;cases h3
  ·obtain ⟨j,hj,c1,c2⟩:=(t.circ g h1 hub).2 h3
   have hjr:=(hR.in_ u h1 k1).2.1 j hj
   obtain ⟨d1,d2⟩:=t.ground g hR (g.lt u j hj) hjr.1 (dd ds j u).toNat u h1 (by omega)
   omega
 ·obtain ⟨q1,q2⟩:=hpath x h1
  obtain ⟨k1,k2⟩:=t.ground g hR hv h0 (dd ds v x).toNat x q1 (by omega)
  omega
theorem IsDist.chain {i:Nat} {out:List Int} (d:IsDist nd bad i out):∀ (m x:Nat),x<nd.length->out.getD x 0=m->∃l:List Nat,l.Nodup/\(∀y∈l,y<nd.length/\out.getD y 0<=m)/\l.length=m+1:=by
 intro m
 induction m with
 | zero=>intro x hx e;exact ⟨[x],by simp,fun y hy=>by rw [List.mem_singleton] at hy;subst hy;exact ⟨hx,by omega⟩,rfl⟩
 | succ m ih =>
  intro x hx e
  obtain ⟨k,hk,h1,h2,h3,h4⟩:=d.par x hx (by omega)
  obtain ⟨l,l1,l2,l3⟩:=ih k hk (by omega)
  refine ⟨x::l,List.nodup_cons.2 ⟨fun h=>by have:=(l2 x h).2;omega,l1⟩,fun y hy=>?_,by simp [l3]⟩
  rcases List.mem_cons.1 hy with rfl|hy
  ·exact ⟨hx,by omega⟩
  ·have:=l2 y hy;exact ⟨this.1,by omega⟩
theorem IsDist.lt {i:Nat} {out:List Int} (d:IsDist nd bad i out) {x:Nat} (hx:x<nd.length) (h0:0<=out.getD x 0):out.getD x 0<nd.length:=by
 obtain ⟨l,l1,l2,l3⟩:=d.chain (out.getD x 0).toNat x hx (by omega)
 have:=fA l1 fun y hy=>(l2 y hy).1
 omega
theorem FH {α:Type} {q1 q2:α->Bool}:∀ {l:List α},(∀a∈l,q1 a=true->q2 a=true)->(∃a∈l,q2 a=true/\q1 a=false)->(l.filter q1).length<(l.filter q2).length:=by
 intro l
 have le:∀l:List α,(∀a∈l,q1 a=true->q2 a=true)->(l.filter q1).length<=(l.filter q2).length:=by
  intro l
  induction l with
  | nil=>intro _;simp
  | cons a l ih =>
   intro h
   have:=ih fun b hb=>h b (by simp [hb])
   have ha:=h a (by simp)
   cases h1:q1 a<;>cases h2:q2 a<;>simp [h1,h2]<;>first|omega|(rw [h1,h2] at ha;simp at ha)
 induction l with
 | nil=>rintro _ ⟨a,h,_⟩;cases h
 | cons a l ih =>
  rintro h ⟨b,hb,h1,h2⟩
  have hl:=le l fun b hb=>h b (by simp [hb])
  have ha:=h a (by simp)
  rcases List.mem_cons.1 hb with rfl|hb
  ·simp [h1,h2];omega
  ·have:=ih (fun b hb=>h b (by simp [hb])) ⟨b,hb,h1,h2⟩
   cases h3:q1 a<;>cases h4:q2 a<;>simp [h3,h4]<;>first|omega|(rw [h3,h4] at ha;simp at ha)
theorem IsTable.ends_ (g:Gr nd bad) (t:IsTable nd bad ds round) (hR:IsRank nd bad rank):∀ (c v:Nat),v<nd.length->rank.getD v 0 = -1->((List.range nd.length).filter fun y=>decide (0<=dd ds v y)).length=c->∃u,u<nd.length/\0<=dd ds v u/\ends bad round u:=by
 intro c
 induction c using Nat.strongRecOn with
 | _ c ih =>
  intro v hv hr hc
  have hvv:dd ds v v=0:=((t.dist v hv).zero v hv).2 rfl
  cases hb:bad.getD v false with
  | true=>exact ⟨v,hv,by omega,.inl hb⟩
  | false =>
   rcases hR.out v hv hr with h|⟨j,hj,hjr⟩
   ·rw [hb] at h;cases h
   ·have hjn:=g.lt v j hj
    by_cases h0:0<=dd ds j v
    ·exact ⟨v,hv,by omega,.inr ((t.circ g hv hb).1 j hj h0).1⟩
    ·have hstep:∀y,y<nd.length->0<=dd ds j y->0<=dd ds v y:=fun y hy h=>(t.step g hv hb hj (dd ds j y).toNat y hy (by omega)).1
     have hless:=FH (q1:=fun y=>decide (0<=dd ds j y)) (q2:=fun y=>decide (0<=dd ds v y)) (l:=List.range nd.length) (fun y hy h=>by
      simp only [decide_eq_true_eq] at h ⊢
      exact hstep y (by simpa using hy) h) ⟨v,by simpa using hv,by simp;omega,by simp;omega⟩
     obtain ⟨u,h1,h2,h3⟩:=ih _ (by rw [<- hc];exact hless) j hjn hjr rfl
     exact ⟨u,h1,hstep u h1 h2,h3⟩
theorem RR.fin (g:Gr nd bad) (t:IsTable nd bad ds round) (hR:IsRank nd bad rank) (hv:v<nd.length) (hr:rank.getD v 0<0) (a:RR nd bad ds round v path r):r<2*nd.length:=by
 have hl:=(hR.low v hv).1
 obtain ⟨u,h1,h2,h3⟩:=t.ends_ g hR _ v hv (by omega) rfl
 have h4:=(t.dist v hv).lt h1 h2
 have h5:=a.all u h1 h2 h3
 have h6:round.getD u 0<=nd.length:=by
  by_cases h:0<round.getD u 0
  ·obtain ⟨w,k1,k2,k3⟩:=t.round_.from_ u h1 h
   have hw:w<nd.length:=by
    apply Classical.byContradiction
    intro hn
    have:nd.getD w []=[]:=by rw [List.getD_eq_getElem?_getD,List.getElem?_eq_none (by omega)];rfl
    rw [this] at k1;cases k1
   have:=(t.dist u h1).lt hw k2.2.2
   omega
  ·omega
 unfold dd at *
 omega
end
end Go.Proofs.Ytjlidhijnohkbaa
