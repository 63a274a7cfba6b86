import Derived.Test.YteamkjblpglliaaFlRun
import Derived.Test.YteamkjblpglliaaSlAny
import Derived.OwnWalk
section
set_option linter.unusedSimpArgs false
set_option linter.unusedVariables false
namespace Go.Proofs.Yteamkjblpglliaa
open Go.RowKit
def oJ (es:List Edge) (fl:List Int) (u:Nat):Nat->Int
 | 0=>0
 | k+1=>oJ es fl u k+(if (es.getD k default).f.toNat=u then fl.getD k 0 else 0) - (if (es.getD k default).t.toNat=u then fl.getD k 0 else 0)
structure vJ (n s t:Int) (es:List Edge) (fl:List Int):Prop where
 len:fl.length=es.length
 ok:sN es fl es.length
 bal:∀u:Nat,(u:Int)<n->(u:Int)≠s->(u:Int)≠t->oJ es fl u es.length=0
def iW (es:List Edge) (left:List Int):List Int:=(List.range es.length).map fun i=>left.getD (2*i+1) 0
theorem pU (es:List Edge) (left:List Int) (i:Nat) (hi:i<es.length):(iW es left).getD i 0=left.getD (2*i+1) 0:=by
 rw [getD_lt _ _ (by simpa [iW] using hi)];simp [iW]
theorem pR {n s t:Int} {es:List Edge} (hv:VNet n s t es) {s' t':Nat} {left:List Int} {value:Int} (H:RunOK s' t' es left value) (i:Nat) (hi:i<es.length):left.getD (2*i) 0+left.getD (2*i+1) 0=es[i].c:=by
 have h:=H.pair (2*i) (by omega)
 have e2:twin (2*i)=2*i+1:=by unfold twin;rw [if_pos (by omega)]
 obtain ⟨g1,g2⟩:=oQ hv i hi
 rw [e2,g1,g2] at h
 omega
theorem zx {n s t:Int} {es:List Edge} (_hv:VNet n s t es) (left:List Int) (u:Nat):∀j,j<=es.length->oJ es (iW es left) u j=oN (rM es) left u j:=by
 intro j
 induction j with
 | zero=>intro _;rfl
 | succ j ih =>
  intro hj
  have hj':j<es.length:=by omega
  obtain ⟨g1,g2⟩:=oL (fun e=>e.t.toNat) (fun e=>e.f.toNat) 0 es j hj'
  simp only [oJ,oN,give]
  rw [ih (by omega),pU es left j hj',getD_lt es default hj']
  rw [show (rM es).getD (2*j+1) 0=es[j].f.toNat from g2,show (rM es).getD (2*j) 0=es[j].t.toNat from g1]
  omega
theorem RunOK.flow {n s t:Int} {es:List Edge} (hv:VNet n s t es) {left:List Int} {value:Int} (H:RunOK s.toNat t.toNat es left value):vJ n s t es (iW es left)/\oJ es (iW es left) s.toNat es.length=value:=by
 have hb:=hv.bounds
 refine ⟨⟨by simp [iW],?_,?_⟩,?_⟩
 ·intro j hj
  rw [pU es left j hj,getD_lt es default hj]
  have h1:=pR hv H j hj
  have h2:=H.nn (2*j)
  have h3:=H.nn (2*j+1)
  omega
 ·intro u hu h1 h2
  rw [zx hv left u _ (Nat.le_refl _),H.net,if_neg (by omega),if_neg (by omega)];rfl
 ·rw [zx hv left _ _ (Nat.le_refl _),H.net,if_pos rfl,if_neg (by omega)];omega
abbrev ins (set:List Bool) (v:Nat):Bool:=set.getD v false
def nZ (set:List Bool) (es:List Edge):Nat->Int
 | 0=>0
 | k+1=>nZ set es k+if nN set (es.getD k default) then (es.getD k default).c else 0
theorem En {n:Int} {set:List Bool} {e:Edge} (hl:(set.length:Int)=n) (he:uO n e):nN set e=(ins set e.f.toNat&&!ins set e.t.toNat):=by
 obtain ⟨h1,h2,h3,h4,_,_,_⟩:=he
 have a:e.f.toNat<set.length:=by omega
 have b:e.t.toNat<set.length:=by omega
 simp [nN,ins,h1,h3,a,b]
theorem Og {n s t:Int} {es:List Edge} (hv:VNet n s t es) (set:List Bool):∀k,k<=es.length->0<=nZ set es k/\nZ set es k<=(k:Int)*1099511627776:=by
 intro k
 induction k with
 | zero=>intro _;simp [nZ]
 | succ k ih =>
  intro hk
  have:=ih (by omega)
  obtain ⟨_,_,_,_,_,a6,a7⟩:=hv.all _ (List.getElem_mem (by omega:k<es.length))
  simp only [nZ,getD_lt es default (by omega:k<es.length)]
  push_cast
  split<;>omega
theorem U5 {n s t:Int} {es:List Edge} (hv:VNet n s t es) (set:List Bool):KU set es=nZ set es es.length:=by
 have key:∀k,k<=es.length->KU set (es.take k)=nZ set es k:=by
  intro k
  induction k with
  | zero=>intro _;rfl
  | succ k ih =>
   intro hk
   have h8:=hv.len
   have h1:=Og hv set k (by omega)
   obtain ⟨_,_,_,_,_,a6,a7⟩:=hv.all _ (List.getElem_mem (by omega:k<es.length))
   rw [Ir set es k (by omega),ih (by omega)]
   simp only [nZ,Au,getD_lt es default (by omega:k<es.length)]
   split
   ·rw [IntWalk.wrap64_in _ ⟨by omega,by omega⟩]
   ·omega
 have:=key es.length (Nat.le_refl _)
 rwa [List.take_length] at this
def yE (set:List Bool) (g:Nat->Int):Nat->Int
 | 0=>0
 | m+1=>yE set g m+if ins set m then g m else 0
theorem rf {a m:Nat} (e:¬ a=m) {p:Prop} [Decidable p] {x:Int}:(if a<m+1/\p then x else 0)=(if a<m/\p then x else 0):=by
 by_cases h:a<m
 ·have h':a<m+1:=by omega
  by_cases hp:p<;>simp [h,h',hp]
 ·have h':¬ a<m+1:=by omega
  simp [h,h']
theorem Gp (set:List Bool) (g h:Nat->Int) (a b:Nat) (x:Int) (hh:∀u,h u=g u+(if a=u then x else 0) - (if b=u then x else 0)):∀m,yE set h m=yE set g m+(if a<m/\ins set a=true then x else 0) - (if b<m/\ins set b=true then x else 0):=by
 intro m
 induction m with
 | zero=>simp [yE]
 | succ m ih =>
  simp only [yE,ih,hh]
  have ha:(if a<m+1/\ins set a=true then x else 0)=(if a<m/\ins set a=true then x else 0)+(if ins set m then (if a=m then x else 0) else 0):=by
   by_cases e:a=m
   ·subst e;simp
   ·rw [rf e];simp [e]
  have hb:(if b<m+1/\ins set b=true then x else 0)=(if b<m/\ins set b=true then x else 0)+(if ins set m then (if b=m then x else 0) else 0):=by
   by_cases e:b=m
   ·subst e;simp
   ·rw [rf e];simp [e]
  rw [ha,hb]
  cases ins set m with
  | true=>simp only [if_true];omega
  | false=>simp only [Bool.false_eq_true,if_false];omega
theorem KW (set:List Bool) (g:Nat->Int) (s:Nat):∀m,(∀u,u<m->u≠s->ins set u=true->g u=0)->yE set g m=if s<m/\ins set s=true then g s else 0:=by
 intro m
 induction m with
 | zero=>intro _;simp [yE]
 | succ m ih =>
  intro h
  simp only [yE]
  rw [ih (fun u hu=>h u (by omega))]
  by_cases e:s=m
  ·subst e;simp
  ·rw [rf e]
   by_cases hi:ins set m=true
   ·rw [if_pos hi,h m (by omega) (fun e'=>e e'.symm) hi];omega
   ·rw [if_neg hi];omega
def gap (set:List Bool) (e:Edge) (x:Int):Int :=
 if ins set e.f.toNat=true/\ins set e.t.toNat=false then e.c - x else if ins set e.f.toNat=false/\ins set e.t.toNat=true then x else 0
def uU (set:List Bool) (es:List Edge) (fl:List Int):Nat->Int
 | 0=>0
 | k+1=>uU set es fl k+gap set (es.getD k default) (fl.getD k 0)
theorem Oj {n s t:Int} {es:List Edge} (hv:VNet n s t es) (set:List Bool) (hl:(set.length:Int)=n) (fl:List Int):∀k,k<=es.length->nZ set es k - yE set (fun u=>oJ es fl u k) n.toNat=uU set es fl k:=by
 intro k
 induction k with
 | zero =>
  intro _
  have:∀m,yE set (fun _=>0) m=0:=by
   intro m
   induction m with
   | zero=>rfl
   | succ m ih=>simp [yE,ih]
  have h0:=this n.toNat
  simp only [nZ,uU,oJ]
  omega
 | succ k ih =>
  intro hk
  have ih:=ih (by omega)
  have hk':k<es.length:=by omega
  have he:=hv.all _ (List.getElem_mem hk')
  have hed:=getD_lt es default hk'
  have h3:=Gp set (fun u=>oJ es fl u k) (fun u=>oJ es fl u (k+1)) es[k].f.toNat es[k].t.toNat (fl.getD k 0) (fun u=>by simp only [oJ,hed]) n.toNat
  obtain ⟨a1,a2,a3,a4,_,_,_⟩:=he
  have f1:es[k].f.toNat<n.toNat:=by omega
  have f2:es[k].t.toNat<n.toNat:=by omega
  simp only [f1,f2,true_and] at h3
  rw [h3]
  simp only [nZ,uU,hed,gap,En hl (hv.all _ (List.getElem_mem hk'))]
  rw [<- ih]
  cases ins set es[k].f.toNat<;>cases ins set es[k].t.toNat<;>simp<;>omega
theorem Lt {es:List Edge} {fl:List Int} (set:List Bool) (hok:sN es fl es.length) (k:Nat) (hk:k<es.length):0<=gap set (es.getD k default) (fl.getD k 0):=by
 have:=hok k hk
 unfold gap
 split
 ·omega
 ·split<;>omega
theorem G5 {es:List Edge} {fl:List Int} (set:List Bool) (hok:sN es fl es.length):∀k,k<=es.length->0<=uU set es fl k:=by
 intro k
 induction k with
 | zero=>intro _;simp [uU]
 | succ k ih=>intro hk;have:=ih (by omega);have:=Lt set hok k (by omega);simp only [uU];omega
theorem JD {es:List Edge} {fl:List Int} (set:List Bool) (hok:sN es fl es.length):∀k,k<=es.length->uU set es fl k=0->∀j,j<k->gap set (es.getD j default) (fl.getD j 0)=0:=by
 intro k
 induction k with
 | zero=>intro _ _ j hj;omega
 | succ k ih =>
  intro hk h0 j hj
  have h1:=G5 set hok k (by omega)
  have h2:=Lt set hok k (by omega)
  simp only [uU] at h0
  by_cases e:j=k
  ·subst e;omega
  ·exact ih (by omega) (by omega) j (by omega)
theorem BN {es:List Edge} {fl:List Int} (set:List Bool):∀k,(∀j,j<k->gap set (es.getD j default) (fl.getD j 0)=0)->uU set es fl k=0:=by
 intro k
 induction k with
 | zero=>intro _;rfl
 | succ k ih=>intro h;simp only [uU,ih (fun j hj=>h j (by omega)),h k (by omega)];rfl
structure wH (n s t:Int) (set:List Bool):Prop where
 len:(set.length:Int)=n
 src:ins set s.toNat=true
 snk:ins set t.toNat=false
theorem yL {n s t:Int} {es:List Edge} (hv:VNet n s t es) {fl:List Int} (hf:vJ n s t es fl) {set:List Bool} (hc:wH n s t set):nZ set es es.length - oJ es fl s.toNat es.length=uU set es fl es.length:=by
 have hb:=hv.bounds
 rw [<- Oj hv set hc.len fl _ (Nat.le_refl _)]
 have:=KW set (fun u=>oJ es fl u es.length) s.toNat n.toNat (fun u hu hus hiu=>by
  refine hf.bal u (by omega) (by omega) (fun e=>?_)
  have:u=t.toNat:=by omega
  subst this
  rw [hc.snk] at hiu;cases hiu)
 rw [this,if_pos ⟨by omega,hc.src⟩]
theorem BR {n s t:Int} {es:List Edge} (hv:VNet n s t es) {fl:List Int} (hf:vJ n s t es fl) {set:List Bool} (hc:wH n s t set):oJ es fl s.toNat es.length<=nZ set es es.length:=by
 have h1:=yL hv hf hc
 have h2:=G5 set hf.ok _ (Nat.le_refl es.length)
 omega
def setOf (level:List Int):List Bool:=level.map fun x=>decide (0<=x)
theorem nT (level:List Int) (v:Nat):ins (setOf level) v=decide (0<=lv level v):=by
 rcases Nat.lt_or_ge v level.length with h|h
 ·rw [ins,getD_lt _ _ (by simpa [setOf] using h),zo h];simp [setOf]
 ·rw [ins,mW _ _ (by simpa [setOf] using h)]
  unfold lv;rw [mW _ _ h];rfl
structure Found (n s t:Int) (es:List Edge) (fl:List Int) (set:List Bool) (value:Int):Prop where
 flow:vJ n s t es fl
 val:oJ es fl s.toNat es.length=value
 cut:wH n s t set
 cap:nZ set es es.length=value
 least:∀D,wH n s t D->nZ D es es.length=value->∀v,ins set v=true->ins D v=true
theorem RunOK.found {n s t:Int} {es:List Edge} (hv:VNet n s t es) {left:List Int} {value:Int} (H:RunOK s.toNat t.toNat es left value) {level:List Int} (L:sF n.toNat s.toNat (fM n.toNat es es.length) (rM es) left level) (ht:lv level t.toNat<0) :
  Found n s t es (iW es left) (setOf level) value:=by
 have hb:=hv.bounds
 obtain ⟨hf,hval⟩:=H.flow hv
 have hN:=OX hv
 have hs0:=(L.zero s.toNat).2 rfl
 have hcut:wH n s t (setOf level):=⟨by simp [setOf,L.len];omega,by rw [nT];simp;omega,by rw [nT];simp;omega⟩
 have ends:∀i (hi:i<es.length),(2*i∈(fM n.toNat es es.length).getD es[i].f.toNat [])/\(rM es).getD (2*i) 0=es[i].t.toNat/\(2*i+1∈(fM n.toNat es es.length).getD es[i].t.toNat [])/\(rM es).getD (2*i+1) 0=es[i].f.toNat:=by
  intro i hi
  obtain ⟨g1,g2⟩:=oL (fun e=>e.t.toNat) (fun e=>e.f.toNat) 0 es i hi
  have t0:twin (2*i)=2*i+1:=by unfold twin;rw [if_pos (by omega)]
  have t1:twin (2*i+1)=2*i:=by unfold twin;rw [if_neg (by omega)];omega
  exact ⟨(hN.out _ _).2 ⟨by omega,by rw [t0];exact g2⟩,g1,(hN.out _ _).2 ⟨by omega,by rw [t1];exact g1⟩,g2⟩
 have hgap:uU (setOf level) es (iW es left) es.length=0:=by
  refine BN _ _ fun i hi=>?_
  obtain ⟨o1,o2,o3,o4⟩:=ends i hi
  have hcap:=pR hv H i hi
  rw [getD_lt es default hi,pU es left i hi]
  unfold gap
  rw [nT,nT]
  have n1:=H.nn (2*i)
  have n2:=H.nn (2*i+1)
  split
  ·rename_i h
   simp only [decide_eq_true_eq,decide_eq_false_iff_not] at h
   by_cases hz:0<left.getD (2*i) 0
   ·have:=L.clo _ h.1 _ o1 hz;rw [o2] at this;exact absurd this h.2
   ·omega
  ·split
   ·rename_i h
    simp only [decide_eq_true_eq,decide_eq_false_iff_not] at h
    by_cases hz:0<left.getD (2*i+1) 0
    ·have:=L.clo _ h.2 _ o3 hz;rw [o4] at this;exact absurd this h.1
    ·omega
   ·rfl
 refine ⟨hf,hval,hcut,by have:=yL hv hf hcut;omega,?_⟩
 intro D hD hcapD
 have hg0:uU D es (iW es left) es.length=0:=by have:=yL hv hf hD;omega
 have hz:=JD D hf.ok _ (Nat.le_refl _) hg0
 have key:∀ (j:Nat) (v:Nat),lv level v=(j:Int)->ins D v=true:=by
  intro j
  induction j with
  | zero=>intro v hv0;have:=(L.zero v).1 (by simpa using hv0);subst this;exact hD.src
  | succ j ih =>
   intro v hv0
   obtain ⟨u,k,h1,h2,h3,h4⟩:=L.pred v (by omega)
   have hu:=ih u (by push_cast at hv0;omega)
   obtain ⟨hk1,hk2⟩:=(hN.out u k).1 h1
   have hi:k / 2<es.length:=by omega
   obtain ⟨o1,o2,o3,o4⟩:=ends (k / 2) hi
   have hcap:=pR hv H (k / 2) hi
   have hzz:=hz (k / 2) hi
   rw [getD_lt es default hi,pU es left _ hi] at hzz
   unfold gap at hzz
   cases hDv:ins D v with
   | true=>rfl
   | false =>
    exfalso
    rcases Nat.mod_two_eq_zero_or_one k with h0|h0
    ·have e1:2*(k / 2)=k:=by omega
     have e2:twin k=2*(k / 2)+1:=by unfold twin;rw [if_pos h0];omega
     rw [e1] at o2 hcap hzz
     rw [e2,o4] at hk2
     rw [h2] at o2
     rw [hk2,<- o2,hu,hDv,if_pos ⟨rfl,rfl⟩] at hzz
     omega
    ·have e1:2*(k / 2)+1=k:=by omega
     have e2:twin k=2*(k / 2):=by unfold twin;rw [if_neg (by omega)];omega
     rw [e1] at o4 hzz
     rw [e2,o2] at hk2
     rw [h2] at o4
     rw [hk2,<- o4,hu,hDv,if_neg (fun h=>Bool.noConfusion h.1),if_pos ⟨rfl,rfl⟩] at hzz
     omega
 intro v hvi
 rw [nT] at hvi
 obtain ⟨j,hj⟩:=Int.eq_ofNat_of_zero_le (by simpa using hvi)
 exact key j v hj
end Go.Proofs.Yteamkjblpglliaa
end
section
set_option linter.unusedSimpArgs false
set_option linter.unusedVariables false
namespace Go.Proofs.Yteamkjblpglliaa
open Go.RowKit Go.SL
theorem zQ {n s t:Nat} {es:List Edge} (hv:VNet n s t es) {left:List Int} {value:Int} (H:RunOK s t es left value) {level:List Int} (L:sF n s (fM n es es.length) (rM es) left level) (ht:lv level t<0) :
  Found n s t es (iW es left) (setOf level) value:=by
 have:=RunOK.found (n:=(n:Int)) (s:=(s:Int)) (t:=(t:Int)) hv (left:=left) (value:=value) (level:=level)
 simp only [Int.toNat_natCast] at this
 exact this H L ht
def NE (n s t:Nat) (es:List Edge) (w:World) (e:Ending) (w':World):Prop :=
 ∃ (fl:List Int) (set:List Bool) (value:Int) (a:Option Addr) (cap:Nat),e=.returned (.tuple #[.slice a n cap,.int .i64 0])/\Found n s t es fl set value/\Sat w.heap.size w w' [row 4 1 0 (.slice a n cap) n (bools set)]
theorem EI (level:List Int) (k:Nat) (hk:k<level.length):(setOf level).take (k+1)=(setOf level).take k++[decide (0<=level[k])]:=by
 rw [List.take_succ_eq_append_getElem (by simpa [setOf] using hk)]
 simp [setOf]
set_option maxHeartbeats 4000000 in
set_option maxRecDepth 100000 in
theorem OO (n:Nat) (a:Option Addr) (m cap:Nat) (es:List Edge) (s t:Nat) (w:World) (hr:rd w a (jS es)) (hl:es.length=m) (hv:VNet n s t es) :
  Calls Try.prog 73 #[.int .i64 n,.slice a m cap,.int .i64 s,.int .i64 t] w (NE n s t es w):=by
 obtain ⟨v1,v2,v3,v4,v5,v6,v7,v8⟩:=hv.bounds
 replace hv:=Lib.hid hv
 replace hl:=Lib.hid hl
 go_enter Try.func73,Try.ntmps73
 go_wp2_with fail
 refine (rX _ a m cap es _ _ _ hr hl.out (by have:=hl.out;omega)).mono ?_
 rintro e w1 ⟨b,rfl,hb,hbel⟩
 obtain rfl:b=true:=hb.2 hv.out
 clear hb
 go_wp2_with fail
 refine (run_any n a m cap es s t _ (hr.below hbel) hl.out hv.out).mono ?_
 rintro e w2 ⟨b,go,co,at_,ct,al,cl,av,cv,aa,ca,us,left,level,ats,value,rfl,hR,hL,ht,hS⟩
 have hS2:=((Sat.init w).calm hbel).call hS
 rw [List.nil_append] at hS2
 clear hS
 have hF:=zQ hv.out hR hL ht
 have hlen:=hL.len
 clear hR hL ht
 obtain ⟨gv,cv',hgv,_,_⟩:=hS2.opened 5 rfl (by omega)
 simp only [Value.slice.injEq,Option.some.injEq] at hgv
 obtain ⟨rfl,-,rfl⟩:=hgv
 have e3:w2.cell? ⟨b,3,none⟩=some (.slice (some ⟨gv,0,none⟩) n cv):=hS2.blkCell 0 rfl 3
 replace hF:=Lib.hid hF
 replace hlen:=Lib.hid hlen
 go_wp2_with fail
 clear e3
 have hS3:=(hS2.nil 4 1).front
 clear hS2
 go_loopw [12,34] (fun v i wr=>∃ (k:Nat) (aq:Option Addr) (cq:Nat),k<=n/\i=.int .i64 k/\v=.slice aq k cq/\Sat w.heap.size w wr (row 4 1 0 (.slice aq k cq) k (bools ((setOf level).take k))::jQ b go n co at_ (2*es.length) ct al cl (some ⟨gv,0,none⟩) cv aa ca s t us (rM es) (fM n es es.length) left level ats [])) (fun _ i _=>n - (intOf i).toNat)
 case atStart=>exact ⟨0,none,0,Nat.zero_le _,rfl,rfl,hS3⟩
 case round =>
  clear hS3
  obtain ⟨k,aq,cq,hk,rfl,rfl,hS⟩:=hrel
  by_cases hlt:k<n
  ·have hll:=hlen.out
   have d1:=hS.cell0 6 rfl k _ (ints_get level k (by omega))
   have htk:=EI level k (by omega)
   generalize level[k]'_=x at *
   replace htk:=Lib.hid htk
   replace hll:=Lib.hid hll
   go_wp2_with (first
    | (at_builtin;go_must (refine ED rfl T.bools _ _ rfl 0 rfl (hS.alloc _) rfl ⟨wr.heap.size,0,none⟩ 1 1 [.bool (decide (0<=x))] rfl (ul _ _ _) (by simp [Value.oneCell']) rfl (by decide) (by decide) (by omega) (by unfold maxLen;omega) ?_;intro a' cap' w3 hS1)))
   go_roundw
   case rel=>exact ⟨k+1,_,_,by omega,by go_num,rfl,by rw [htk.out,show bools ((setOf level).take k++[decide (0<=x)])=bools ((setOf level).take k)++[Value.bool (decide (0<=x))] from List.map_append];exact hS1⟩
   case measure=>simp [intOf];omega
  ·obtain rfl:n=k:=by omega
   rw [List.take_of_length_le (by simp [setOf,hlen.out])] at hS
   go_wp2_with fail
   go_ret2
   exact ⟨_,_,_,_,_,rfl,hF.out,hS.sel [0] (by decide) rfl⟩
def Nu (n s t:Nat) (es:List Edge) (w:World) (e:Ending) (w':World):Prop :=
 ∃ (fl:List Int) (set:List Bool) (value:Int) (a:Option Addr) (cap:Nat),e=.returned (.tuple #[.int .i64 value,.slice a es.length cap,.int .i64 0])/\Found n s t es fl set value/\Sat w.heap.size w w' [row 3 1 0 (.slice a es.length cap) es.length (ints fl)]
theorem DL (es:List Edge) (left:List Int) (k:Nat) (hk:k<es.length):(iW es left).take (k+1)=(iW es left).take k++[left.getD (2*k+1) 0]:=by
 rw [List.take_succ_eq_append_getElem (by simpa [iW] using hk)]
 simp [iW]
set_option maxHeartbeats 4000000 in
set_option maxRecDepth 100000 in
theorem Oi (n:Nat) (a:Option Addr) (m cap:Nat) (es:List Edge) (s t:Nat) (w:World) (hr:rd w a (jS es)) (hl:es.length=m) (hv:VNet n s t es) :
  Calls Try.prog 72 #[.int .i64 n,.slice a m cap,.int .i64 s,.int .i64 t] w (Nu n s t es w):=by
 obtain ⟨v1,v2,v3,v4,v5,v6,v7,v8⟩:=hv.bounds
 replace hv:=Lib.hid hv
 replace hl:=Lib.hid hl
 go_enter Try.func72,Try.ntmps72
 go_wp2_with fail
 refine (rX _ a m cap es _ _ _ hr hl.out (by have:=hl.out;omega)).mono ?_
 rintro e w1 ⟨b,rfl,hb,hbel⟩
 obtain rfl:b=true:=hb.2 hv.out
 clear hb
 go_wp2_with fail
 refine (run_any n a m cap es s t _ (hr.below hbel) hl.out hv.out).mono ?_
 rintro e w2 ⟨b,go,co,at_,ct,al,cl,av,cv,aa,ca,us,left,level,ats,value,rfl,hR,hL,ht,hS⟩
 have hS2:=((Sat.init w).calm hbel).call hS
 rw [List.nil_append] at hS2
 clear hS
 have hF:=zQ hv.out hR hL ht
 have hcp:=fun i hi=>pR hv.out hR i hi
 have hll:=hR.len
 have hnn:=hR.nn
 clear hR hL ht
 replace hF:=Lib.hid hF
 replace hcp:=Lib.hid hcp
 replace hll:=Lib.hid hll
 replace hnn:=Lib.hid hnn
 go_wp2_with fail
 have hS3:=(hS2.nil 3 1).front
 clear hS2
 go_loopw [13,32] (fun v i wr=>∃ (k:Nat) (aq:Option Addr) (cq:Nat),k<=m/\i=.int .i64 k/\v=.slice aq k cq/\Sat w.heap.size w wr (row 3 1 0 (.slice aq k cq) k (ints ((iW es left).take k))::jQ b go n co at_ (2*es.length) ct al cl av cv aa ca s t us (rM es) (fM n es es.length) left level ats [])) (fun _ i _=>m - (intOf i).toNat)
 case atStart=>exact ⟨0,none,0,Nat.zero_le _,rfl,rfl,hS3⟩
 case round =>
  clear hS3
  obtain ⟨k,aq,cq,hk,rfl,rfl,hS⟩:=hrel
  by_cases hlt:k<m
  ·have hk':k<es.length:=by have:=hl.out;omega
   obtain ⟨g1,off,rfl,hg1,hc⟩:=hr.opened (by rw [kS];have:=hl.out;omega)
   obtain ⟨c1,c2,c3⟩:=pK hc k hk'
   have hbase:=hS.base
   have hg1w:g1<wr.heap.size:=by omega
   have c1':=hS.old hg1 c1
   have c2':=hS.old hg1 c2
   have c3':=hS.old hg1 c3
   have htk:=DL es left k hk'
   have hcpk:=hcp.out k hk'
   have hn1:=hnn.out (2*k)
   have hn2:=hnn.out (2*k+1)
   have hlk:2*k<left.length:=by have:=hll.out;omega
   obtain ⟨gl,cl',hgl,_,_⟩:=hS.opened 3 rfl (by omega)
   simp only [Value.slice.injEq,Option.some.injEq] at hgl
   obtain ⟨rfl,-,rfl⟩:=hgl
   have d1:=hS.cell0 3 rfl (2*k) _ (ints_get left (2*k) hlk)
   rw [<- getD_lt left 0 hlk] at d1
   obtain ⟨e1,e2,e3,e4,e5,e6,e7⟩:=hv.out.all _ (List.getElem_mem hk')
   generalize es[k]=ed at *
   obtain ⟨f,t',c⟩:=ed
   simp only at c1' c2' c3' e6 e7 hcpk
   obtain ⟨x,hx0⟩:∃x,left.getD (2*k) 0=x:=⟨_,rfl⟩
   obtain ⟨y,hy0⟩:∃y,left.getD (2*k+1) 0=y:=⟨_,rfl⟩
   rw [hx0] at d1 hcpk hn1
   rw [hy0] at hcpk hn2 htk
   clear hc c1 c2 c3 e1 e2 e3 e4 e5
   have hy:c - x=y:=by omega
   replace htk:=Lib.hid htk
   have hwm:IntKind.i64.wrap (2*(k:Int))=2*(k:Int):=IntWalk.i64_in _ (by omega)
   have htn:(2*(k:Int)).toNat=2*k:=by omega
   have hb0:(0:Int)<=2*(k:Int):=by omega
   have hb1:2*(k:Int)<2*(es.length:Int):=by omega
   have hwy:IntKind.i64.wrap y=y:=IntWalk.i64_in _ (by omega)
   have hmx:(if (0:Int)<y then y else 0)=y:=by split<;>omega
   go_wp2_with fail
   have hS1:=(hS.var [.int .i64 f,.int .i64 t',.int .i64 c] 75).front
   generalize hW:(wr.alloc _)=W at *
   clear hW
   have q2:W.cell? ⟨wr.heap.size,2,none⟩=some (.int .i64 c):=hS1.blkCell 0 rfl 2
   have r0:W.cell? ⟨b,0,none⟩=some (.slice at_ (2*es.length) ct):=hS1.blkCell 2 rfl 0
   have r1:W.cell? ⟨b,1,none⟩=some (.slice (some ⟨gl,0,none⟩) (2*es.length) cl):=hS1.blkCell 2 rfl 1
   have d2:W.cell? ⟨gl,2*k,none⟩=some (.int .i64 x):=by
    have hl2:=hll.out
    have:=hS1.cell0 4 rfl (2*k) _ (ints_get left (2*k) hlk)
    rw [<- getD_lt left 0 hlk,hx0] at this;exact this
   clear d1
   have mk:∀ (V:World) (u:Value) (n2:Nat) (ys:List Value),Sat w.heap.size w V (blk wr.heap.size [.int .i64 f,.int .i64 t',.int .i64 c] 75::row 3 1 0 u n2 ys::jQ b go n co at_ (2*es.length) ct (some ⟨gl,0,none⟩) cl av cv aa ca s t us (rM es) (fM n es es.length) left level ats [])->(fun w':World=>w'.cell? ⟨wr.heap.size,2,none⟩=some (.int .i64 c)/\w'.cell? ⟨b,0,none⟩=some (.slice at_ (2*es.length) ct)/\w'.cell? ⟨b,1,none⟩=some (.slice (some ⟨gl,0,none⟩) (2*es.length) cl)/\w'.cell? ⟨gl,2*k,none⟩=some (.int .i64 x)) V :=
    fun V _ _ _ h=>⟨h.blkCell 0 rfl 2,h.blkCell 2 rfl 0,h.blkCell 2 rfl 1,by rw [h.cell0 4 rfl (2*k) _ (ints_get left (2*k) hlk),<- getD_lt left 0 hlk,hx0]⟩
   have S0:=mk _ _ _ _ hS1.drew
   replace mk:=Lib.hid mk
   refine iV (fun w':World=>w'.cell? ⟨wr.heap.size,2,none⟩=some (.int .i64 c)/\w'.cell? ⟨b,0,none⟩=some (.slice at_ (2*es.length) ct)/\w'.cell? ⟨b,1,none⟩=some (.slice (some ⟨gl,0,none⟩) (2*es.length) cl)/\w'.cell? ⟨gl,2*k,none⟩=some (.int .i64 x)) 16 (by kernel_rfl) ?_
   refine aV (i:=0) (v:=?v1) rfl (by kernel_rfl) (fun _ _ _ h=>h) (by assumption) (Or.inl ⟨by rfl,?y1⟩) ?_
   case y1=>(intro wS hwS;(try dsimp only at hwS);go_simp;try rfl)
   try simp only [Act.put,List.setIfInBounds_toArray,List.set_cons_zero,List.set_cons_succ]
   refine aV (i:=1) (v:=?v2) rfl (by kernel_rfl) (fun _ _ _ h=>h) (by assumption) (Or.inl ⟨by rfl,?y2⟩) ?_
   case y2=>(intro wS hwS;(try dsimp only at hwS);go_simp;try rfl)
   try simp only [Act.put,List.setIfInBounds_toArray,List.set_cons_zero,List.set_cons_succ]
   refine aV (i:=2) (v:=?v3) rfl (by kernel_rfl) (fun _ _ _ h=>h) (by assumption) (Or.inl ⟨by rfl,?y3⟩) ?_
   case y3=>(intro wS hwS;(try dsimp only at hwS);go_simp;try rfl)
   try simp only [Act.put,List.setIfInBounds_toArray,List.set_cons_zero,List.set_cons_succ]
   refine aV (i:=3) (v:=?v4) rfl (by kernel_rfl) (fun _ _ _ h=>h) (by assumption) (Or.inl ⟨by rfl,?y4⟩) ?_
   case y4=>(intro wS hwS;(try dsimp only at hwS);go_simp;try rfl)
   try simp only [Act.put,List.setIfInBounds_toArray,List.set_cons_zero,List.set_cons_succ]
   refine aV (i:=4) (v:=?v5) rfl (by kernel_rfl) (fun _ _ _ h=>h) (by assumption) (Or.inl ⟨by rfl,?y5⟩) ?_
   case y5=>(intro wS hwS;(try dsimp only at hwS);go_simp;try rfl)
   try simp only [Act.put,List.setIfInBounds_toArray,List.set_cons_zero,List.set_cons_succ]
   refine aV (i:=5) (v:=?v6) rfl (by kernel_rfl) (fun _ _ _ h=>h) (by assumption) (Or.inl ⟨by rfl,?y6⟩) ?_
   case y6=>(intro wS hwS;(try dsimp only at hwS);go_simp;try rfl)
   try simp only [Act.put,List.setIfInBounds_toArray,List.set_cons_zero,List.set_cons_succ]
   refine aV (i:=6) (v:=?v7) rfl (by kernel_rfl) (fun _ _ _ h=>h) (by assumption) (Or.inl ⟨by rfl,?y7⟩) ?_
   case y7=>(intro wS hwS;(try dsimp only at hwS);go_simp;try rfl)
   try simp only [Act.put,List.setIfInBounds_toArray,List.set_cons_zero,List.set_cons_succ]
   refine aV (i:=7) (v:=?v8) rfl (by kernel_rfl) (fun _ _ _ h=>h) (by assumption) (Or.inl ⟨by rfl,?y8⟩) ?_
   case y8=>(intro wS hwS;(try dsimp only at hwS);go_simp;try rfl)
   try simp only [Act.put,List.setIfInBounds_toArray,List.set_cons_zero,List.set_cons_succ]
   refine aV (i:=8) (v:=?v9) rfl (by kernel_rfl) (fun _ _ _ h=>h) (by assumption) (Or.inl ⟨by rfl,?y9⟩) ?_
   case y9=>(intro wS hwS;(try dsimp only at hwS);go_simp;try rfl)
   try simp only [Act.put,List.setIfInBounds_toArray,List.set_cons_zero,List.set_cons_succ]
   refine aV (i:=9) (v:=?v10) rfl (by kernel_rfl) (fun _ _ _ h=>h) (by assumption) (Or.inl ⟨by rfl,?y10⟩) ?_
   case y10=>(intro wS hwS;(try dsimp only at hwS);go_simp;try rfl)
   try simp only [Act.put,List.setIfInBounds_toArray,List.set_cons_zero,List.set_cons_succ]
   refine aV (i:=10) (v:=?v11) rfl (by kernel_rfl) (fun _ _ _ h=>h) (by assumption) (Or.inl ⟨by rfl,?y11⟩) ?_
   case y11=>(intro wS hwS;(try dsimp only at hwS);go_simp;try rfl)
   try simp only [Act.put,List.setIfInBounds_toArray,List.set_cons_zero,List.set_cons_succ]
   refine aV (i:=11) (v:=?v12) rfl (by kernel_rfl) (fun _ _ _ h=>h) (by assumption) (Or.inl ⟨by rfl,?y12⟩) ?_
   case y12=>(intro wS hwS;(try dsimp only at hwS);go_simp;try rfl)
   try simp only [Act.put,List.setIfInBounds_toArray,List.set_cons_zero,List.set_cons_succ]
   refine aV (i:=12) (v:=?v13) rfl (by kernel_rfl) (fun _ _ _ h=>h) (by assumption) (Or.inl ⟨by rfl,?y13⟩) ?_
   case y13=>(intro wS hwS;(try dsimp only at hwS);go_simp;try rfl)
   try simp only [Act.put,List.setIfInBounds_toArray,List.set_cons_zero,List.set_cons_succ]
   refine aV (i:=13) (v:=?v14) rfl (by kernel_rfl) (fun _ _ _ h=>h) (by assumption) (Or.inl ⟨by rfl,?y14⟩) ?_
   case y14=>(intro wS hwS;(try dsimp only at hwS);go_simp;try rfl)
   try simp only [Act.put,List.setIfInBounds_toArray,List.set_cons_zero,List.set_cons_succ]
   refine dY (i:=14) (by kernel_rfl) rfl rfl fun K hK=>?_
   go_simp
   try simp only [hwy,hmx]
   refine hK _ _ (.inr (mk.out _ _ _ _ (hS1.alloc _).drew)) ?_
   clear hK K
   refine dY (i:=15) (by kernel_rfl) rfl rfl fun K hK=>?_
   refine kz T.ints _ _ rfl 1 0 _ k (ints ((iW es left).take k)) rfl (hS1.alloc _).drew rfl ⟨W.heap.size,0,none⟩ 1 1 [.int .i64 y] rfl (jg _ _ _) (by simp [Value.oneCell']) rfl (by decide) (by decide) (by omega) (by unfold maxLen;omega) ?_
   intro a3 off3 cap3 w3 hoff hS2
   obtain rfl:=hoff rfl
   refine hK _ _ (.inr (mk.out _ _ _ _ hS2)) ?_
   clear hK K
   simp only [Act.put,List.setIfInBounds_toArray,List.set_cons_zero,List.set_cons_succ]
   refine dY (i:=16) (by kernel_rfl) rfl rfl fun K hK=>?_
   go_simp
   refine hK _ _ (.inl rfl) ?_
   clear hK K
   refine lS (by kernel_rfl) ?_ _
   go_wp2_with fail
   go_roundw
   case rel=>exact ⟨k+1,_,_,by omega,by go_num,rfl,by rw [htk.out,show ints ((iW es left).take k++[y])=ints ((iW es left).take k)++[Value.int .i64 y] from List.map_append];exact hS2.tail⟩
   case measure=>simp [intOf];omega
  ·obtain rfl:m=k:=by omega
   have hlm:=hl.out
   subst hlm
   rw [List.take_of_length_le (by simp [iW])] at hS
   go_wp2_with fail
   go_ret3
   exact ⟨_,_,_,_,_,rfl,hF.out,hS.sel [0] (by decide) rfl⟩
end Go.Proofs.Yteamkjblpglliaa
end
