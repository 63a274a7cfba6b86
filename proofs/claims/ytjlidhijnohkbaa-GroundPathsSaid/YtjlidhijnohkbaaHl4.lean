import Derived.Test.YtjlidhijnohkbaaHl3
import Derived.Deep.LoopGhost
import Derived.Scope
set_option linter.unusedSimpArgs false
set_option linter.unusedVariables false
section
namespace Go.HL
open Go.RowKit
def Weak (s s':St):Prop:=∀E a w,SRel E s.nx s a w->SRel E s'.nx s' a w
theorem Weak.refl (s:St):Weak s s:=fun _ _ _ h=>h
theorem Weak.trans {s s' s'':St} (h1:Weak s s') (h2:Weak s' s''):Weak s s'':=fun E a w h=>h2 E a w (h1 E a w h)
def lF (s:St) (op:HOp HX):Option (FuncId×List HV) :=
 match op.map (ev s.sl) with
 | .call f xs=>some (f,xs)
 | .callv (.fn f cap) xs=>some (f,xs++cap)
 | _=>none
def IX (P:Program) (s:St) (o:HOper) (K:St->Prop):Prop :=
 o.guard=none/\∃f vs io ids,lF s o.op=some (f,vs)/\(ak s.M vs).2.2/\(io.map (fun j=>vs[j]?)=ids.map fun id=>some (HV.pref id [] 0))/\ids.Nodup/\HTI P f (ak s.M vs).1 io fun v outs=>outs.length=ids.length ->
  K { ((s.upd ((ak s.M vs).2.1++kills ids++iF ids outs++(unpack s.nx v).2.1)).put o.dst (unpack s.nx v).1) with nx:=(unpack s.nx v).2.2 }
theorem zT {P:Program} {s:St} {o:HOper} {K K':St->Prop} (h:IX P s o K) (hk:∀s,K s->K' s):IX P s o K':=by
 obtain ⟨h0,f,vs,io,ids,h1,h2,h3,h4,h5⟩:=h
 exact ⟨h0,f,vs,io,ids,h1,h2,h3,h4,h5.mono fun v outs hv hl=>hk _ (hv hl)⟩
def qw (P:Program):Nat->List HOper->(St->Prop)->St->Prop
 | 0,ops,K,s=>hops (HS P) ops ops 0 (fun s1=>K { s1 with nx:=s1.nx+stride*ops.length }) s
 | m+1,ops,K,s=>hops (HS P) ops ops 0 (fun s1=>K { s1 with nx:=s1.nx+stride*ops.length }) s \/
  (∃n,0<n/\n<=ops.length/\(ops.all fun o=>o.guard.isNone)=true/\hops (HS P) (ops.take n) (ops.take n) 0 (fun s1=>∃s2,Weak { s1 with nx:=s1.nx+stride*n } s2/\qw P m (ops.drop n) K s2) s) \/
  ∃o r,ops=o::r/\(r.all fun o=>o.guard.isNone)=true/\IX P s o fun s1=>∃s2,Weak s1 s2/\qw P m r K s2
def IC (masks:List Nat) (ops:List HOper) (n:Nat):Bool :=
 decide (n<=ops.length)&&(List.range ops.length).all (fun i=>decide (i<n) || (List.range i).all fun k=>nN masks k i)&&ops.all (fun o=>o.guard.isNone)
def DW (Q:Exit->Act->World->Prop):Exit->Act->World->Prop
 | .panic _,_,_=>False
 | e,a,w=>Q e a w
def FT (masks:List Nat) (ops:List HOper) (m n:Nat):Bool :=
 decide (n<=ops.length)&&(List.range ops.length).all (fun i=>decide (i<n) || (List.range i).all fun k=>decide (k<m) || nN masks k i)&&ops.all (fun o=>o.guard.isNone)
def Jc (P:Program) (masks:List Nat) (ops:List HOper) (K:St->Prop) (s:St):Prop :=
 kU masks ops=true/\(Inv s.nx (fun _=>False) s.S s.M->(∃D,dr (HT2 P) D ops masks s.nx (fun S M=>∃s':St,s'.S=S/\s'.M=M/\s'.nx=s.nx/\K { s' with nx:=s'.nx+stride*ops.length }) (List.range ops.length) [] s.S s.M) \/
  (∃n D,IC masks ops n=true/\dr (HT2 P) D (ops.take n) masks s.nx (fun S M=>∃s' s2:St,s'.S=S/\s'.M=M/\s'.nx=s.nx/\Weak { s' with nx:=s'.nx+stride*n } s2/\qw P (ops.drop n).length (ops.drop n) K s2) (List.range n) [] s.S s.M) \/
  ∃m n D,NP masks ops m=true/\m<=n/\FT masks ops m n=true/\dr (HT2 P) D (ops.take n) masks s.nx (fun S M=>∃s' s2:St,s'.S=S/\s'.M=M/\s'.nx=s.nx/\Weak { s' with nx:=s'.nx+stride*n } s2/\qw P (ops.drop n).length (ops.drop n) K s2) (List.range' m (n - m)) [] (St.S ⟨OH ops (List.range m) s.sl,s.st,s.nx⟩) s.M)
def hcode (P:Program):HCode->(HE->St->Prop)->St->Prop
 | .skip,Q,s=>Q .normal s
 | .region none ops,Q,s=>qw P ops.length ops (Q .normal) s
 | .region (some inc) ops,Q,s=>Jc P inc ops (Q .normal) s
 | .seq a b,Q,s=>hcode P a (fun e s1=>match e with|.normal=>∃s',Weak s1 s'/\hcode P b Q s'|e=>Q e s1) s
 | .cond c a b,Q,s=>match ev s.sl c with
  | .bool t=>(t=true->∃s',Weak s s'/\hcode P a Q s')/\(t=false->∃s',Weak s s'/\hcode P b Q s')
  | _=>False
 | .block id b,Q,s=>hcode P b (fun e s1=>match e with|.exit i=>if i=id then Q .normal s1 else Q (.exit i) s1|e=>Q e s1) s
 | .loop b,Q,s=>∃ (I:St->Prop) (μ:St->Nat),(∃s',Weak s s'/\I s')/\∀s,I s->∃s0,Weak s s0/\hcode P b (fun e s1=>match e with|.normal=>∃s',Weak s1 s'/\I s'/\μ s'<μ s|e=>Q e s1) s0
 | .exit id,Q,s=>Q (.exit id) s
 | .ret,Q,s=>Q .ret s
 | .bad,_,_=>False
def MQ (T:Nat):Nat->Bool:=fun t=>decide (t<T)
def eU (P:Program) (T:Nat->Bool):Code->HCode
 | .skip=>.skip
 | .region _ ops draw=>.region (if draw then some (bF ops) else none) (ops.toList.map (aA P T))
 | .seq a b=>.seq (eU P T a) (eU P T b)
 | .cond c a b=>.cond (dw c) (eU P T a) (eU P T b)
 | .block id b=>.block id (eU P T b)
 | .loop b=>.loop (eU P T b)
 | .exit id=>.exit id
 | .ret=>.ret
 | .scope b=>eU P T b
 | .label _=>.skip
 | _=>.bad
section
variable {P:Program} {E:Fr} {N:Nat} {a:Act} {w:World}
theorem SRel.bool {s:St} {d:Nat} {b:Bool} (h:SRel E N s a w) (hb:au d s.sl=.bool b):a.tmps[d]?=some (.bool b):=by
 obtain ⟨loc,fp,h⟩:=h
 have h1:=h.slots d
 have h2:s.S d=.bool b:=hb
 rw [h2] at h1
 have h3:=of_bool h1
 cases h4:a.tmps[d]? with
 | none=>rw [iw,h4] at h3;simp [undef] at h3
 | some v=>rw [iw,h4] at h3;simpa using h3
theorem GG {ops:Array Oper} {K:St->Prop} {Q:Exit->Act->World->Prop}:∀ (rest:List Oper) (i:Nat) (s:St) (a:Act) (w:World),ops.toList.drop i=rest->SRel E (s.nx+stride*i) s a w ->
  hops (HS P) (ops.toList.map (aA P E.ok)) (rest.map (aA P E.ok)) i K s->(∀s' a' w',s'.nx=s.nx->SRel E (s.nx+stride*(i+rest.length)) s' a' w'->K s'->Q .normal a' w')->wpOps P ops Q (List.range' i rest.length) a w:=by
 intro rest
 induction rest with
 | nil=>intro i s a w _ hr h hK;exact hK s a w rfl hr h
 | cons o rest ih =>
  intro i s a w hdrop hr h hK
  have hoi:ops[i]?=some o:=by
   have:=congrArg (fun l:List Oper=>l[0]?) hdrop
   simpa using this
  have hdrop':ops.toList.drop (i+1)=rest:=by
   have:=congrArg (List.drop 1) hdrop
   simpa [nR,jI] using this
  simp only [List.length_cons,C9,wpOps,hoi]
  have next:∀s' a' w',s'.nx=s.nx->SRel E (s.nx+stride*(i+1)) s' a' w'->hops (HS P) (ops.toList.map (aA P E.ok)) (rest.map (aA P E.ok)) (i+1) K s'->wpOps P ops Q (List.range' (i+1) rest.length) a' w':=by
   intro s' a' w' hnx hr' h'
   refine ih (i+1) s' a' w' hdrop' (by rw [hnx];exact hr') h' ?_
   intro s2 a2 w2 h2 hr2 hK2
   rw [hnx] at hr2
   exact hK s2 a2 w2 (h2.trans hnx) (by rw [List.length_cons,show i+(rest.length+1)=i+1+rest.length by omega];exact hr2) hK2
  simp only [iy,hops] at h
  have hgd:(aA P E.ok o).guard=o.guard:=rfl
  rw [hgd] at h
  cases hg:o.guard with
  | none =>
   rw [hg] at h
   simp only at h
   have hw:Region.wanted o (yielded ops a.tmps)=true:=by simp [Region.wanted,hg]
   rw [if_pos hw]
   exact .inl (pR hr h next)
  | some jw =>
   obtain ⟨j,want⟩:=jw
   rw [hg] at h
   simp only [iT,Option.bind_map] at h
   have hall:((ops.toList[j]?).bind ((fun x=>x.dst) ∘ aA P E.ok))=((ops[j]?).bind (·.dst)):=by rw [kz];rfl
   rw [hall] at h
   cases hd:(ops[j]?).bind (·.dst) with
   | none=>rw [hd] at h;simp at h
   | some d =>
    rw [hd] at h
    simp only [iq] at h
    generalize hv:au d s.sl=v at h
    have skip:hops (HS P) (ops.toList.map (aA P E.ok)) (rest.map (aA P E.ok)) (i+1) K (s.put o.dst (.tup []))->wpOps P ops Q (List.range' (i+1) rest.length) (a.put o.dst undef) w:=fun h2=>by
     have hstr:s.nx+stride*i<=s.nx+stride*(i+1):=by unfold stride;omega
     refine next (s.put o.dst (.tup [])) (a.put o.dst undef) w (St.put_nx _ _ _) ?_ h2
     obtain ⟨loc,fp,hr0⟩:=hr
     refine ⟨loc,fp,?_⟩
     rw [St.put_S,St.put_M]
     exact (hr0.putU o.dst).up hstr
    cases v with
    | bool b =>
     simp only at h
     have hy:yielded ops a.tmps j=some b:=by
      unfold yielded
      rw [hd]
      simp only [Df,SRel.bool hr hv]
     by_cases hbw:b=want
     ·have hw:Region.wanted o (yielded ops a.tmps)=true:=by simp [Region.wanted,hg,hy,hbw]
      rw [if_pos hw]
      exact .inl (pR hr (h.1 hbw) next)
     ·rw [if_neg (by simp [Region.wanted,hg,hy,hbw])]
      exact skip (h.2 hbw)
    | tup cs =>
     cases cs with
     | cons _ _=>exact h.elim
     | nil =>
      simp only at h
      have hy:yielded ops a.tmps j=none:=by
       obtain ⟨loc,fp,hr0⟩:=hr
       have h1:=hr0.slots d
       have h2:s.S d=.tup []:=hv
       rw [h2] at h1
       have h3:=F5 h1
       unfold yielded
       rw [hd]
       simp only [Df]
       cases h4:a.tmps[d]? with
       | none=>rfl
       | some v=>rw [iw,h4] at h3;simp at h3;rw [h3];rfl
      rw [if_neg (by simp [Region.wanted,hg,hy])]
      exact skip h
    | _=>exact h.elim
theorem Ji {D:DS} {all:List HOper} {masks:List Nat} {nx n:Nat} {K:Lk->Lk->Prop} (hg:∀o∈all,o.guard=none):∀ {l:List Nat} {log:pU} {S M:Lk},(∀i∈l,i<n)->(∀q∈log,q.1<n)->dr (HT2 P) D (all.take n) masks nx K l log S M->dr (HT2 P) D all masks nx K l log S M:=by
 intro l
 induction l with
 | nil=>intro log S M _ _ h;exact h
 | cons i l ih =>
  intro log S M hl hlog h
  obtain ⟨o,ho,hs,he,h⟩:=h
  have hin:=hl i (by simp)
  have ho':all[i]?=some o:=by rw [Iu hin] at ho;exact ho
  have hgo:=hg o (List.mem_of_getElem? ho')
  have e1:∀ (fr:Nat) (S M:Lk),dU (HT2 P) D (all.take n) fr o S M=dU (HT2 P) D all fr o S M:=fun fr S M=>by unfold dU gd;rw [hgo]
  have e2:∀ (fr:Nat) (S M:Lk) e,fZ D (all.take n) fr o S M e=fZ D all fr o S M e:=fun fr S M e=>by unfold fZ gd;rw [hgo]
  refine ⟨o,ho',e1 _ _ _▸hs,?_,fun e hre=>?_⟩
  ·obtain ⟨e,he⟩:=he;exact ⟨e,e2 _ _ _ _▸he⟩
  ·obtain ⟨h1,h2⟩:=h e ((e2 _ _ _ _).symm▸hre)
   refine ⟨fun q hq hb1 hb2 o' ho2 hsu=>h1 q hq hb1 hb2 o' (by rw [Iu (hlog q hq)];exact ho2) hsu,ih (fun k hk=>hl k (by simp [hk])) (fun q hq=>?_) h2⟩
   rcases zl008.1 hq with rfl|hq
   ·exact hin
   ·exact hlog q hq
theorem xO {s:St} {o:Oper} {K:St->Prop} {next:Act->World->Prop} {Q:Exit->Act->World->Prop} (hr:SRel E s.nx s a w) (h:IX P s (aA P E.ok o) K)
  (hn:∀s' a' w',K s'->SRel E s'.nx s' a' w'->next a' w'):o.wp P a w next Q:=by
 obtain ⟨loc,fp,hr⟩:=hr
 obtain ⟨hg,f,vs,io,ids,hc,hside,hio,hids,hC⟩:=h
 unfold aA at hc hC
 by_cases hd:(o.dst.all fun d=>E.ok d)=true
 ·have hdt:∀t,o.dst=some t->E.ok t=true:=fun t ht=>by simpa [ht] using hd
  simp only [hd,if_true] at hc hC
  have callgen:∀ (rvs:List Value),(execOp a.eval o).run P w=(callFunc f rvs.toArray).run P w->OW (dX E fp w) w.heap (RefR s.nx s.M loc w.heap) vs rvs []->o.wp P a w next Q:=by
   intro rvs hrun hv
   unfold Oper.wp
   rw [hrun,jT hC.1,Oper.upon_enter]
   refine (yh hr (aP _) hv hside hio hids hC).mono ?_
   rintro e w' ⟨rv,res,outs,rfl,hK,hl,_,hA⟩
   exact hn _ _ _ (hK hl) (SRel.done hA hdt)
  unfold lF at hc
  cases hop':aC P o with
  | call f' xs =>
   rw [hop'] at hc
   simp only [HOp.map,bY,kD] at hc
   obtain ⟨rfl,rfl⟩:=hc
   obtain ⟨c,hcc,hcal,rfl⟩:=sK hop'
   refine callgen (c.args.toList.map a.eval) ?_ (by rw [iG,kV];exact hr.vals _)
   have e1:(#[]:Array Value)++c.args.map a.eval++#[]=(c.args.toList.map a.eval).toArray:=by apply qV;simp
   have e2:a.eval (.func f')=.func (.func f') #[] #[]:=rfl
   simp only [execOp,hcc,resolve,hcal,e2,Deferred.ofValue,Sem.run_bind,Sem.run_pure,Result.andThen_ok,invoke,e1]
  | callv x xs =>
   rw [hop'] at hc
   simp only [HOp.map] at hc
   obtain ⟨c,t,hcc,hcal,rfl,rfl⟩:=pF hop'
   have hval:=hr.val (.tmp t)
   simp only [dw] at hval
   have e0:ev s.sl (.t t)=bT s.S (.t t):=by rw [kV]
   rw [e0] at hc
   generalize bT s.S (.t t)=fv at *
   cases fv<;>simp only [reduceCtorEq] at hc
   rename_i f' cap
   simp only [bY,kD] at hc
   obtain ⟨rfl,rfl⟩:=hc
   obtain ⟨rcap,hfe,hcap⟩:=Ae hval
   have hv:=(hr.vals c.args.toList).append hcap
   simp only [List.append_nil] at hv
   refine callgen (c.args.toList.map a.eval++rcap) ?_ (by rw [iG,kV];exact hv)
   have e1:(#[]:Array Value)++c.args.map a.eval++rcap.toArray=(c.args.toList.map a.eval++rcap).toArray:=by apply qV;simp
   simp only [execOp,hcc,resolve,hcal,hfe,Deferred.ofValue,Sem.run_bind,Sem.run_pure,Result.andThen_ok,invoke,e1]
  | _ =>
   rw [hop'] at hc
   simp [HOp.map] at hc
 ·simp only [hd] at hc
  simp [lF,HOp.map] at hc
theorem Oo {ops:Array Oper} {n:Nat} {Q:Exit->Act->World->Prop} (hlt:∀i o e,ops[i]?=some o->e∈o.after->Region.binds .any e=true->e.on<i)
  (hlast:∀i,n<=i->i<ops.size->∀k,n<=k->k<i->nN (bF ops) k i=true) (p:Nat) (hp:n<=p) (o:Oper) (hoi:ops[p]?=some o) (hgo:o.guard=none) (fuel:Nat) (listed:Array Bool) (a:Act) (w:World) (hfu:ops.size - p<=fuel) (hsz:listed.size=ops.size)
  (hl:∀k,k<p->listed.getD k false=true) (hu:∀k,p<=k->k<ops.size->listed.getD k true=false)
  (hK:∀fuel' (listed':Array Bool),ops.size - (p+1)<=fuel'->listed'.size=ops.size->(∀k,k<p+1->listed'.getD k false=true)->(∀k,p+1<=k->k<ops.size->listed'.getD k true=false)->o.wp P a w (wpAny P .any ops Q fuel' listed') Q):wpAny P .any ops Q fuel listed a w:=by
 have hps:p<ops.size:=(zl022.1 hoi).1
 cases fuel with
 | zero=>omega
 | succ fuel =>
  refine ⟨fun h0=>?_,fun i hi'=>?_⟩
  ·exfalso
   have:p∈Region.ready .any ops listed:=mem_ready.2 ⟨hu _ (aP _) hps,o,hoi,fun e he hb=>hl _ (hlt _ o e hoi he hb)⟩
   rw [h0] at this;cases this
  ·obtain ⟨hun,o',ho',haft⟩:=mem_ready.1 hi'
   have hio:i<ops.size:=(zl022.1 ho').1
   have unl:∀k,p<=k->k<ops.size->listed.getD k false=false:=fun k h1 h2=>by
    have h3:=hu k h1 h2
    have hk':k<listed.size:=by omega
    simp only [iw,jv hk',gV] at h3 ⊢
    exact h3
   have hij:i=p:=by
    rcases Nat.lt_trichotomy i p with h|h|h
    ·exfalso
     have h2:=hl i h
     have hi2:i<listed.size:=by omega
     simp only [iw,jv hi2,gV] at hun h2
     rw [hun] at h2;cases h2
    ·exact h
    ·exfalso
     have down:∀m,m<i->nN (bF ops) p m=true->listed.getD m false=true->False:=by
      intro m
      induction m using Nat.strongRecOn with
      | _ m ihm =>
       intro hmi hb hlm
       rcases dL m p with hm|hm
       ·have hms:m<ops.size:=by omega
        obtain ⟨e,he,hbb,h3⟩:=jk (jv hms) hb
        have hel:=hlt m _ e (jv hms) he hbb
        rcases h3 with h3|h3
        ·omega
        ·exact ihm e.on hel (by omega) h3 (hl _ (by omega))
       ·rw [unl m hm (by omega)] at hlm;cases hlm
     obtain ⟨e,he,hbb,h3⟩:=jk ho' (hlast i (by omega) hio p hp h)
     have hle:=haft e he hbb
     have hel:=hlt i o' e ho' he hbb
     rcases h3 with h3|h3
     ·rw [h3,unl _ (aP _) (by omega)] at hle;cases hle
     ·exact down e.on hel h3 hle
   subst hij
   rw [hoi] at ho';cases ho'
   have hw:Region.wanted o (yielded ops a.tmps)=true:=by simp [Region.wanted,hgo]
   unfold wpOp
   rw [hoi]
   simp only
   rw [if_pos hw]
   refine .inl (hK fuel (listed.setIfInBounds i true) (by omega) (by simpa using hsz) (fun k hk=>?_) (fun k hk1 hk2=>?_))
   ·by_cases e:k=i
    ·subst e;have:k<listed.size:=by omega
     simp [this]
    ·rw [getD_set_ne false (fun h=>e h.symm)];exact hl k (by omega)
   ·rw [getD_set_ne true (by omega)];exact hu k (by omega) hk2
theorem IV {ops:Array Oper} {n:Nat} {K:St->Prop} {Q:Exit->Act->World->Prop} {all:List HOper} (hlt:∀i o e,ops[i]?=some o->e∈o.after->Region.binds .any e=true->e.on<i)
  (hlast:∀i,n<=i->i<ops.size->∀k,n<=k->k<i->nN (bF ops) k i=true) (p:Nat) (hp:n<=p):∀ (l:List Oper) (j fuel:Nat) (listed:Array Bool) (s:St) (a:Act) (w:World),(∀o∈l,o.guard=none)->(∀i,i<l.length->ops[p+j+i]?=l[i]?)->p+j+l.length<=ops.size->ops.size - (p+j)<=fuel->listed.size=ops.size ->
   (∀k,k<p+j->listed.getD k false=true)->(∀k,p+j<=k->k<ops.size->listed.getD k true=false)->SRel E (s.nx+stride*j) s a w ->
   hops (HS P) all (l.map (aA P E.ok)) j K s ->
   (∀fuel' (listed':Array Bool) s' a' w',s'.nx=s.nx->ops.size - (p+j+l.length)<=fuel'->listed'.size=ops.size->(∀k,k<p+j+l.length->listed'.getD k false=true)->(∀k,p+j+l.length<=k->k<ops.size->listed'.getD k true=false)->SRel E (s.nx+stride*(j+l.length)) s' a' w'->K s'->wpAny P .any ops Q fuel' listed' a' w')->wpAny P .any ops Q fuel listed a w:=by
 intro l
 induction l with
 | nil=>intro j fuel listed s a w _ _ _ hfu hsz hl hu hr h hK;exact hK fuel listed s a w rfl hfu hsz hl hu hr h
 | cons o rest ih =>
  intro j fuel listed s a w hg hi hlen hfu hsz hl hu hr h hK
  simp only [List.length_cons] at hlen
  have hoi:ops[p+j]?=some o:=by have:=hi 0 (by simp);simpa using this
  have hgo:o.guard=none:=hg o (by simp)
  cases fuel with
  | zero=>omega
  | succ fuel =>
   refine ⟨fun h0=>?_,fun i hi'=>?_⟩
   ·exfalso
    have:p+j∈Region.ready .any ops listed:=mem_ready.2 ⟨hu _ (aP _) (by omega),o,hoi,fun e he hb=>hl _ (hlt _ o e hoi he hb)⟩
    rw [h0] at this;cases this
   ·obtain ⟨hun,o',ho',haft⟩:=mem_ready.1 hi'
    have hio:i<ops.size:=(zl022.1 ho').1
    have unl:∀k,p+j<=k->k<ops.size->listed.getD k false=false:=fun k h1 h2=>by
     have h3:=hu k h1 h2
     have hk':k<listed.size:=by omega
     simp only [iw,jv hk',gV] at h3 ⊢
     exact h3
    have hij:i=p+j:=by
     rcases Nat.lt_trichotomy i (p+j) with h|h|h
     ·exfalso
      have h2:=hl i h
      have hi2:i<listed.size:=by omega
      simp only [iw,jv hi2,gV] at hun h2
      rw [hun] at h2;cases h2
     ·exact h
     ·exfalso
      have down:∀m,m<i->nN (bF ops) (p+j) m=true->listed.getD m false=true->False:=by
       intro m
       induction m using Nat.strongRecOn with
       | _ m ihm =>
        intro hmi hb hlm
        rcases dL m (p+j) with hm|hm
        ·have hms:m<ops.size:=by omega
         obtain ⟨e,he,hbb,h3⟩:=jk (jv hms) hb
         have hel:=hlt m _ e (jv hms) he hbb
         rcases h3 with h3|h3
         ·omega
         ·exact ihm e.on hel (by omega) h3 (hl _ (by omega))
        ·rw [unl m hm (by omega)] at hlm;cases hlm
      obtain ⟨e,he,hbb,h3⟩:=jk ho' (hlast i (by omega) hio (p+j) (by omega) h)
      have hle:=haft e he hbb
      have hel:=hlt i o' e ho' he hbb
      rcases h3 with h3|h3
      ·rw [h3,unl _ (aP _) (by omega)] at hle;cases hle
      ·exact down e.on hel h3 hle
    subst hij
    rw [hoi] at ho';cases ho'
    simp only [iy,hops] at h
    have hgd:(aA P E.ok o).guard=o.guard:=rfl
    rw [hgd,hgo] at h
    simp only at h
    have hw:Region.wanted o (yielded ops a.tmps)=true:=by simp [Region.wanted,hgo]
    unfold wpOp
    rw [hoi]
    simp only
    rw [if_pos hw]
    refine .inl (pR hr h ?_)
    intro s' a' w' hnx hr' h'
    refine ih (j+1) fuel (listed.setIfInBounds (p+j) true) s' a' w' (fun o ho=>hg o (by simp [ho])) (fun i hi2=>?_) (by omega) (by omega) (by simpa using hsz) (fun k hk=>?_) (fun k hk1 hk2=>?_) (by rw [hnx];exact hr') h' ?_
    ·have:=hi (i+1) (by simp;omega)
     rw [show p+(j+1)+i=p+j+(i+1) by omega]
     simpa using this
    ·by_cases e:k=p+j
     ·subst e;have:p+j<listed.size:=by omega
      simp [this]
     ·rw [getD_set_ne false (fun h=>e h.symm)];exact hl k (by omega)
    ·rw [getD_set_ne true (by omega)];exact hu k (by omega) hk2
    ·intro f2 l2 s2 a2 w2 h2 hf2 hs2 hl2 hu2 hr2 hK2
     rw [hnx] at hr2
     exact hK f2 l2 s2 a2 w2 (h2.trans hnx) (by rw [List.length_cons];omega) hs2 (fun k hk=>hl2 k (by rw [List.length_cons] at hk;omega)) (fun k hk1 hk2=>hu2 k (by rw [List.length_cons] at hk1;omega) hk2) (by rw [List.length_cons,show j+(rest.length+1)=j+1+rest.length by omega];exact hr2) hK2
theorem EI {ops:Array Oper} {n:Nat} {K:St->Prop} {Q:Exit->Act->World->Prop} (hlt:∀i o e,ops[i]?=some o->e∈o.after->Region.binds .any e=true->e.on<i)
  (hlast:∀i,n<=i->i<ops.size->∀k,n<=k->k<i->nN (bF ops) k i=true) (hQ:∀s' a' w',SRel E s'.nx s' a' w'->K s'->Q .normal a' w'):∀ (m p:Nat) (rest:List Oper) (fuel:Nat) (listed:Array Bool) (s:St) (a:Act) (w:World),n<=p->ops.toList.drop p=rest->(∀o∈rest,o.guard=none)->p<=ops.size->ops.size - p<=fuel->listed.size=ops.size ->
   (∀k,k<p->listed.getD k false=true)->(∀k,p<=k->k<ops.size->listed.getD k true=false)->SRel E s.nx s a w->qw P m (rest.map (aA P E.ok)) K s->wpAny P .any ops Q fuel listed a w:=by
 have done:∀ (fuel:Nat) (listed:Array Bool) (a:Act) (w:World),listed.size=ops.size->(∀k,k<ops.size->listed.getD k false=true)->Q .normal a w->wpAny P .any ops Q fuel listed a w:=by
  intro fuel listed a w hsz hl hfin
  have hno:Region.ready .any ops listed=[]:=zl039.2 fun i hi=>by
   obtain ⟨h1,o,ho,_⟩:=mem_ready.1 hi
   have hio:i<ops.size:=(zl022.1 ho).1
   have h2:=hl i hio
   have hi':i<listed.size:=by omega
   simp only [iw,jv hi',gV] at h1 h2
   rw [h1] at h2;cases h2
  cases fuel with
  | zero=>exact ⟨hno,hfin⟩
  | succ fuel=>exact ⟨fun _=>hfin,fun i hi=>by rw [hno] at hi;cases hi⟩
 have fin:∀ (p:Nat) (rest:List Oper) (fuel:Nat) (listed:Array Bool) (s:St) (a:Act) (w:World),n<=p->ops.toList.drop p=rest->(∀o∈rest,o.guard=none)->p<=ops.size->ops.size - p<=fuel->listed.size=ops.size ->
   (∀k,k<p->listed.getD k false=true)->(∀k,p<=k->k<ops.size->listed.getD k true=false)->SRel E s.nx s a w->hops (HS P) (rest.map (aA P E.ok)) (rest.map (aA P E.ok)) 0 (fun s1=>K { s1 with nx:=s1.nx+stride*(rest.map (aA P E.ok)).length }) s->wpAny P .any ops Q fuel listed a w:=by
  intro p rest fuel listed s a w hnp hd hg hps hfu hsz hl hu hr h
  have hlen:p+rest.length=ops.size:=by rw [<- hd,lT,oP];omega
  refine IV hlt hlast p hnp rest 0 fuel listed s a w hg (fun i hi=>by rw [<- hd,xH,kz,Nat.add_zero]) (by omega) (by simpa using hfu) hsz (by simpa using hl) (by simpa using hu) (by simpa using hr) h ?_
  intro f2 l2 s2 a2 w2 hnx hf2 hs2 hl2 hu2 hr2 hK2
  refine done f2 l2 a2 w2 hs2 (fun k hk=>hl2 k (by omega)) (hQ _ a2 w2 ?_ hK2)
  simp only [fK,Nat.zero_add] at hr2 ⊢
  rw [hnx]
  exact hr2
 intro m
 induction m with
 | zero=>intro p rest fuel listed s a w hnp hd hg hps hfu hsz hl hu hr h;exact fin p rest fuel listed s a w hnp hd hg hps hfu hsz hl hu hr h
 | succ m ih =>
  intro p rest fuel listed s a w hnp hd hg hps hfu hsz hl hu hr h
  rcases h with h|⟨q,hq0,hql,_,h⟩|⟨o,r,he,_,hC⟩
  ·exact fin p rest fuel listed s a w hnp hd hg hps hfu hsz hl hu hr h
  rotate_left
  ·cases rest with
   | nil=>cases he
   | cons o rest =>
    simp only [iy,List.cons.injEq] at he
    obtain ⟨he1,he2⟩:=he
    have hlen:p+(rest.length+1)=ops.size:=by
     have:=congrArg List.length hd
     rw [lT,oP,List.length_cons] at this
     omega
    have hd':ops.toList.drop (p+1)=rest:=by
     have:=congrArg (List.drop 1) hd
     simpa [nR,jI] using this
    have hoi:ops[p]?=some o:=by
     have:=congrArg (fun l:List Oper=>l[0]?) hd
     simpa using this
    refine Oo hlt hlast p hnp o hoi (hg o (by simp)) fuel listed a w (by omega) hsz hl hu ?_
    intro fuel' listed' hf' hs' hl' hu'
    rw [<- he1] at hC
    refine xO hr hC ?_
    intro s1 a' w' ⟨s2,hwk,h2⟩ hr'
    exact ih (p+1) rest fuel' listed' s2 a' w' (by omega) hd' (fun o ho=>hg o (by simp [ho])) (by omega) hf' hs' hl' hu' (hwk _ _ _ hr') (by rw [he2];exact h2)
  ·rw [fK] at hql
   have hlen:p+rest.length=ops.size:=by rw [<- hd,lT,oP];omega
   rw [<- List.map_take] at h
   have htl:(rest.take q).length=q:=by rw [gB,Nat.min_eq_left hql]
   refine IV hlt hlast p hnp (rest.take q) 0 fuel listed s a w (fun o ho=>hg o (zN ho)) (fun i hi=>?_) (by omega) (by simpa using hfu) hsz (by simpa using hl) (by simpa using hu) (by simpa using hr) h ?_
   ·rw [htl] at hi
    rw [Iu hi,<- hd,xH,kz,Nat.add_zero]
   ·intro f2 l2 s2 a2 w2 hnx hf2 hs2 hl2 hu2 hr2 ⟨s3,hw,h3⟩
    rw [htl,Nat.add_zero] at hf2 hl2 hu2
    rw [htl,Nat.zero_add] at hr2
    refine ih (p+q) (rest.drop q) f2 l2 s3 a2 w2 (by omega) (by rw [<- hd,nR]) (fun o ho=>hg o (Fh ho)) (by omega) hf2 hs2 hl2 hu2 (hw _ _ _ ?_) (by rw [List.map_drop];exact h3)
    show SRel E (s2.nx+stride*q) { s2 with nx:=s2.nx+stride*q } a2 w2
    rw [hnx]
    exact hr2
theorem Dk {ops:Array Oper} {K:St->Prop} {Q:Exit->Act->World->Prop} {all:List HOper} {tail:List Nat} (n:Nat):∀ (l:List Oper) (j:Nat) (s:St) (a:Act) (w:World),(∀o∈l,o.guard=none)->(∀i,i<l.length->ops[n+j+i]?=l[i]?)->SRel E (s.nx+stride*j) s a w ->
  hops (HS P) all (l.map (aA P E.ok)) j K s->(∀s' a' w',s'.nx=s.nx->SRel E (s.nx+stride*(j+l.length)) s' a' w'->K s'->wpOps P ops Q tail a' w')->wpOps P ops Q (List.range' (n+j) l.length++tail) a w:=by
 intro l
 induction l with
 | nil=>intro j s a w _ _ hr h hK;exact hK s a w rfl hr h
 | cons o l ih =>
  intro j s a w hg hi hr h hK
  have hoi:ops[n+j]?=some o:=by have:=hi 0 (by simp);simpa using this
  have hgo:=hg o (by simp)
  simp only [List.length_cons,C9,List.cons_append,wpOps,hoi]
  simp only [iy,hops] at h
  have hgd:(aA P E.ok o).guard=o.guard:=rfl
  rw [hgd,hgo] at h
  simp only at h
  have hw:Region.wanted o (yielded ops a.tmps)=true:=by simp [Region.wanted,hgo]
  rw [if_pos hw]
  refine .inl (pR hr h ?_)
  intro s' a' w' hnx hr' h'
  rw [uw]
  refine ih (j+1) s' a' w' (fun o ho=>hg o (by simp [ho])) (fun i hi'=>?_) (by rw [hnx];exact hr') h' ?_
  ·have:=hi (i+1) (by simp;omega)
   rw [show n+(j+1)+i=n+j+(i+1) by omega]
   simpa using this
  ·intro s2 a2 w2 h2 hr2 hK2
   rw [hnx] at hr2
   exact hK s2 a2 w2 (h2.trans hnx) (by rw [List.length_cons,show j+(l.length+1)=j+1+l.length by omega];exact hr2) hK2
theorem Fp {ops:Array Oper} {K:St->Prop} {Q:Exit->Act->World->Prop} (hQ:∀s' a' w',SRel E s'.nx s' a' w'->K s'->Q .normal a' w'):∀ (m n:Nat) (rest:List Oper) (s:St) (a:Act) (w:World),ops.toList.drop n=rest->(n=0\/∀o∈rest,o.guard=none)->SRel E s.nx s a w->qw P m (rest.map (aA P E.ok)) K s->wpOps P ops Q (List.range' n rest.length) a w:=by
 have fin:∀ (n:Nat) (rest:List Oper) (s:St) (a:Act) (w:World),ops.toList.drop n=rest->(n=0\/∀o∈rest,o.guard=none)->SRel E s.nx s a w->hops (HS P) (rest.map (aA P E.ok)) (rest.map (aA P E.ok)) 0 (fun s1=>K { s1 with nx:=s1.nx+stride*(rest.map (aA P E.ok)).length }) s->wpOps P ops Q (List.range' n rest.length) a w:=by
  intro n rest s a w hd hg hr h
  have out:∀s' a' w',s'.nx=s.nx->SRel E (s.nx+stride*(0+rest.length)) s' a' w'->K { s' with nx:=s'.nx+stride*(rest.map (aA P E.ok)).length }->Q .normal a' w':=by
   intro s' a' w' hnx hr' hK
   refine hQ _ a' w' ?_ hK
   simp only [fK,Nat.zero_add] at hr' ⊢
   rw [hnx]
   exact hr'
  rcases hg with rfl|hg
  ·rw [List.drop_zero] at hd
   subst hd
   exact GG ops.toList 0 s a w rfl (by simpa using hr) h out
  ·have:=Dk (P:=P) (E:=E) (Q:=Q) (tail:=[]) (ops:=ops) n rest 0 s a w hg (fun i hi=>by
    rw [<- hd,xH,kz,Nat.add_zero]) (by simpa using hr) h (fun s' a' w' hnx hr' hK=>out s' a' w' hnx hr' hK)
   rw [List.append_nil,Nat.add_zero] at this
   exact this
 intro m
 induction m with
 | zero=>intro n rest s a w hd hg hr h;exact fin n rest s a w hd hg hr h
 | succ m ih =>
  intro n rest s a w hd hg hr h
  rcases h with h|⟨q,hq0,hql,hfree,h⟩|⟨o,r,he,hfree,hC⟩
  ·exact fin n rest s a w hd hg hr h
  rotate_left
  ·cases rest with
   | nil=>cases he
   | cons o rest =>
    simp only [iy,List.cons.injEq] at he
    obtain ⟨he1,he2⟩:=he
    have hoi:ops[n]?=some o:=by
     have:=congrArg (fun l:List Oper=>l[0]?) hd
     simpa using this
    rw [<- he1] at hC
    have hgo:o.guard=none:=hC.1
    have hd':ops.toList.drop (n+1)=rest:=by
     have:=congrArg (List.drop 1) hd
     simpa [nR,jI] using this
    simp only [List.length_cons,C9,wpOps,hoi]
    have hw:Region.wanted o (yielded ops a.tmps)=true:=by simp [Region.wanted,hgo]
    rw [if_pos hw]
    refine .inl (xO hr hC ?_)
    intro s1 a' w' ⟨s2,hwk,h2⟩ hr'
    refine ih (n+1) rest s2 a' w' hd' (.inr fun o ho=>?_) (hwk _ _ _ hr') (by rw [he2];exact h2)
    rw [<- he2,zl014] at hfree
    simpa [aA] using hfree (aA P E.ok o) (zl023.2 ⟨o,ho,rfl⟩)
  ·rw [fK] at hql
   have hfr:∀o∈rest,o.guard=none:=fun o ho=>by
    rw [zl014] at hfree
    simpa [aA] using hfree (aA P E.ok o) (zl023.2 ⟨o,ho,rfl⟩)
   have e:List.range' n rest.length=List.range' (n+0) (rest.take q).length++List.range' (n+q) (rest.drop q).length:=by
    rw [gB,Nat.min_eq_left hql,lT,Nat.add_zero]
    have:=List.range'_append_1 (s:=n) (m:=q) (n:=rest.length - q)
    rw [show q+(rest.length - q)=rest.length by omega] at this
    exact this.symm
   rw [e]
   rw [<- List.map_take] at h
   refine Dk (P:=P) (E:=E) n (rest.take q) 0 s a w (fun o ho=>hfr o (zN ho)) (fun i hi=>?_) (by simpa using hr) h ?_
   ·rw [gB,Nat.min_eq_left hql] at hi
    rw [Iu hi,<- hd,xH,kz,Nat.add_zero]
   ·intro s' a' w' hnx hr' ⟨s2,hw,h2⟩
    rw [gB,Nat.min_eq_left hql,Nat.zero_add] at hr'
    refine ih (n+q) (rest.drop q) s2 a' w' (by rw [<- hd,nR]) (.inr fun o ho=>hfr o (Fh ho)) (hw _ _ _ ?_) (by rw [List.map_drop];exact h2)
    show SRel E (s'.nx+stride*q) { s' with nx:=s'.nx+stride*q } a' w'
    rw [hnx]
    exact hr'
def PQ:HE->Exit
 | .normal=>.normal
 | .exit id=>.exit id
 | .ret=>.ret
theorem rX (hm:P.follows .mixedOrders=true):∀ (c:Code) (Q:HE->St->Prop) (Q':Exit->Act->World->Prop) (s:St) (a:Act) (w:World),SRel E s.nx s a w->hcode P (eU P E.ok c) Q s ->
  (∀e s' a' w',SRel E s'.nx s' a' w'->Q e s'->Q' (PQ e) a' w')->c.wp P Q' a w:=by
 intro c
 induction c with
 | skip=>intro Q Q' s a w hr h hQ;exact wp_skip (hQ .normal s a w hr h)
 | region id ops draw =>
  intro Q Q' s a w hr h hQ
  cases draw with
  | false =>
   simp only [eU,Bool.false_eq_true,if_false,hcode] at h
   refine wp_region ?_
   have:=Fp (P:=P) (E:=E) (ops:=ops) (Q:=Q') (fun s' a' w' hr' hK=>hQ .normal _ a' w' hr' hK) _ 0 ops.toList s a w (by simp) (.inl rfl) hr h
   rw [A8]
   simpa using this
  | true =>
   simp only [eU,if_true,hcode,Jc] at h
   obtain ⟨hst,h⟩:=h
   refine wp_region_any hm ?_
   obtain ⟨loc,fp,hr⟩:=hr
   have hlen:(ops.toList.map (aA P E.ok)).length=ops.size:=by simp
   have hin:∀k,(Array.replicate ops.size false).getD k false=true->False:=fun k hk=>by
    rw [iw,Array.getElem?_replicate] at hk
    split at hk<;>simp at hk
   have hI:=hr.inv
   have up:∀x,oJ s.nx (fun _=>False) x->oJ s.nx (fun k=>(Array.replicate ops.size false).getD k false=true) x:=fun x hx=>jD (fun k hk=>hk.elim) hx
   rcases h hI with ⟨D,hdr⟩|⟨n,D,hsp,hdr⟩|⟨m,n,D,hfl,hmn,hsp,hdr⟩
   ·rw [hlen] at hdr
    refine JD (E:=E) rfl hst ?_ ops.size (Array.replicate ops.size false) (List.range ops.size) [] s.S s.M s.nx loc fp a _ (by simp) ?_ (by simp) (fun i o _ h=>(hin i h).elim) hdr ⟨fun t=>HV.inn_mono (hI.slots t) up,fun id=>HV.inn_mono (hI.trees id) up,fun id h=>up id (hI.alive id h)⟩ (hr.drew _)
    ·intro X S M N loc' fp' a' w' hI' hX hr' ⟨s',e1,e2,e3,hK⟩
     have lt:∀x,oJ s.nx X x->x<s.nx+stride*ops.size:=fun x hx=>by
      rcases hx with hx|⟨k,hk,hx⟩
      ·omega
      ·have:=hX k hk
       unfold uT stride at *
       omega
     refine hQ .normal _ a' w' ?_ hK
     refine ⟨loc',fp',?_⟩
     have:=hr'.lower (N':=s.nx+stride*ops.size) (fun t=>HV.inn_mono (hI'.slots t) lt) (fun id h=>lt id (hI'.alive id h))
     rw [<- e1,<- e2] at this
     show Rel E (s'.nx+stride*ops.size) s'.S s'.M loc' fp' a' w'
     rw [e3]
     exact this
    ·refine (zl056.2 fun k hk=>?_).symm
     rw [zl034] at hk
     simp [hk]
   ·simp only [IC,aG,decide_eq_true_eq,zl014,zl034,uy,hlen] at hsp
    obtain ⟨⟨hn,hla⟩,hgs⟩:=hsp
    have hlast:∀i,n<=i->i<ops.size->∀k,k<i->nN (bF ops) k i=true:=fun i h1 h2 k hk=>by
     rcases hla i h2 with h|h
     ·omega
     ·exact h k hk
    have hgs':∀o∈ops.toList.map (aA P E.ok),o.guard=none:=fun o ho=>by simpa using hgs o ho
    have hgo:∀o∈ops.toList,o.guard=none:=fun o ho=>hgs' _ (zl023.2 ⟨o,ho,rfl⟩)
    have hlt:∀i o e,ops[i]?=some o->e∈o.after->Region.binds .any e=true->e.on<i:=fun i o e ho he hb=>by
     have h1:=(jm hst (show (ops.toList.map (aA P E.ok))[i]?=some (aA P E.ok o) by rw [iT,kz,ho];rfl)).1
     have h2:=xg ho he hb
     unfold nN at h2
     rcases dL e.on i with h|h
     ·exact h
     ·rw [BO (kM h1 (CV (by omega) h))] at h2;cases h2
    have hdr':=Ji (P:=P) hgs' (fun i hi=>zl034.1 hi) (by simp) hdr
    refine CJ (E:=E) rfl hst 0 n hn (fun i h1 h2 k _ hk=>hlast i h1 h2 k hk) ?_ ops.size (Array.replicate ops.size false) (List.range n) [] s.S s.M s.nx loc fp a _ (by simp) ?_ ?_ ?_ (fun k hk=>absurd hk (AU k)) (fun i o _ h=>(hin i h).elim) hdr' ⟨fun t=>HV.inn_mono (hI.slots t) up,fun id=>HV.inn_mono (hI.trees id) up,fun id h=>up id (hI.alive id h)⟩ (hr.drew _)
    ·intro fuel listed X S M N loc' fp' a' w' hfu hsz hl hu hI' hX hr' ⟨s',s2,e1,e2,e3,hw,hK⟩
     have lt:∀x,oJ s.nx X x->x<s.nx+stride*n:=fun x hx=>by
      rcases hx with hx|⟨k,hk,hx⟩
      ·omega
      ·have:=hX k hk
       unfold uT stride at *
       omega
     have h1:=hr'.lower (N':=s.nx+stride*n) (fun t=>HV.inn_mono (hI'.slots t) lt) (fun id h=>lt id (hI'.alive id h))
     rw [<- e1,<- e2] at h1
     have h2:SRel E ({ s' with nx:=s'.nx+stride*n }:St).nx { s' with nx:=s'.nx+stride*n } a' w':=by
      refine ⟨loc',fp',?_⟩
      show Rel E (s'.nx+stride*n) s'.S s'.M loc' fp' a' w'
      rw [e3];exact h1
     have h3:=hw _ _ _ h2
     rw [<- List.map_drop] at hK
     exact EI hlt (fun i h1 h2 k _ hk=>hlast i h1 h2 k hk) (fun s' a' w' h1 h2=>hQ .normal _ a' w' h1 h2) _ n (ops.toList.drop n) fuel listed s2 a' w' (aP _) rfl (fun o ho=>hgo o (Fh ho)) hn hfu hsz hl hu h3 hK
    ·refine (zl056.2 fun k hk=>?_).symm
     rw [zl034] at hk
     have:k<ops.size:=by omega
     simp [this]
    ·intro k _ hk;simp [hk]
    ·simp;omega
   ·simp only [FT,aG,decide_eq_true_eq,zl014,zl034,uy,hlen] at hsp
    obtain ⟨⟨hn,hla⟩,hgs⟩:=hsp
    have hlast:∀i,n<=i->i<ops.size->∀k,m<=k->k<i->nN (bF ops) k i=true:=fun i h1 h2 k hkm hk=>by
     rcases hla i h2 with h|h
     ·omega
     ·rcases h k hk with h|h
      ·omega
      ·exact h
    have hgs':∀o∈ops.toList.map (aA P E.ok),o.guard=none:=fun o ho=>by simpa using hgs o ho
    have hgo:∀o∈ops.toList,o.guard=none:=fun o ho=>hgs' _ (zl023.2 ⟨o,ho,rfl⟩)
    have hlt:=Dx (P:=P) (E:=E) rfl hst
    have hdr':=Ji (P:=P) hgs' (fun i hi=>by have:=zl077.1 hi;omega) (by simp) hdr
    refine ER (Q:=DW Q') (fun e a w h=>by cases e<;>first|exact h|exact h.elim) ops.size _ a _ ?_
    suffices h:wpAny P .any ops (DW Q') (ops.size - m+(List.range m).length) (Array.replicate ops.size false) a { w with drawn:=w.drawn+1 } by
     rw [show ops.size - m+(List.range m).length=ops.size by rw [List.length_range];omega] at h
     exact h
    refine HY (P:=P) (E:=E) rfl hst (fun c a w h=>h) (List.range m) (ops.size - m) (Array.replicate ops.size false) s.nx s.sl s.M loc fp a _ (by simp) (fun i o _ h=>(hin i h).elim) List.nodup_range (fun i hi=>?_) (hr.drew _) ?_
    ·have him:=zl034.1 hi
     refine ⟨?_,?_⟩
     ·have:i<ops.size:=by omega
      simp [this]
     ·have:=zl014.1 hfl i hi
      cases ho:(ops.toList.map (aA P E.ok))[i]? with
      | none=>rw [ho] at this;cases this
      | some o =>
       rw [ho] at this
       simp only at this
       cases hf:BU o with
       | none=>rw [hf] at this;cases this
       | some dx =>
        obtain ⟨d,x⟩:=dx
        rw [hf] at this
        exact ⟨o,d,x,rfl,hf,this⟩
    intro listed' a' hsz' hcl' hun' hr''
    have hun:∀k,listed'.getD k true=false <-> (k<ops.size/\m<=k):=fun k=>by
     rw [hun' k,zl034,Nat.not_lt]
     refine and_congr_left fun _=>?_
     rcases dL k ops.size with h|h
     ·simp [h]
     ·simp [uj,h,Nat.not_lt.2 h]
    have hI2:=hr''.inv
    have up2:∀x,oJ s.nx (fun _=>False) x->oJ s.nx (fun k=>listed'.getD k false=true) x:=fun x hx=>jD (fun k hk=>hk.elim) hx
    refine CJ (E:=E) rfl hst m n hn hlast ?_ (ops.size - m) listed' (List.range' m (n - m)) [] _ s.M s.nx loc fp a' _ hsz' ?_ ?_ ?_ ?_ hcl' hdr' ⟨fun t=>HV.inn_mono (hI2.slots t) up2,fun id=>HV.inn_mono (hI2.trees id) up2,fun id h=>up2 id (hI2.alive id h)⟩ hr''
    ·intro fuel listed X S M N loc' fp' a' w' hfu hsz hl hu hI' hX hr' ⟨s',s2,e1,e2,e3,hw,hK⟩
     have lt:∀x,oJ s.nx X x->x<s.nx+stride*n:=fun x hx=>by
      rcases hx with hx|⟨k,hk,hx⟩
      ·omega
      ·have:=hX k hk
       unfold uT stride at *
       omega
     have h1:=hr'.lower (N':=s.nx+stride*n) (fun t=>HV.inn_mono (hI'.slots t) lt) (fun id h=>lt id (hI'.alive id h))
     rw [<- e1,<- e2] at h1
     have h2:SRel E ({ s' with nx:=s'.nx+stride*n }:St).nx { s' with nx:=s'.nx+stride*n } a' w':=by
      refine ⟨loc',fp',?_⟩
      show Rel E (s'.nx+stride*n) s'.S s'.M loc' fp' a' w'
      rw [e3];exact h1
     have h3:=hw _ _ _ h2
     rw [<- List.map_drop] at hK
     exact EI (Q:=DW Q') hlt (fun i h1 h2 k h3 hk=>hlast i h1 h2 k (by omega) hk) (fun s' a' w' h1 h2=>hQ .normal _ a' w' h1 h2) _ n (ops.toList.drop n) fuel listed s2 a' w' (aP _) rfl (fun o ho=>hgo o (Fh ho)) hn hfu hsz hl hu h3 hK
    ·rw [show List.range n=List.range m++List.range' m (n - m) by
      have h:=@List.range'_append_1 0 m (n - m)
      rw [Nat.zero_add,Nat.add_sub_cancel' hmn] at h
      rw [A8,A8]
      exact h.symm,List.filter_append,List.filter_eq_nil_iff.2,zl056.2,List.nil_append]
     ·intro k hk
      have:=zl077.1 hk
      simpa using (hun k).2 ⟨by omega,by omega⟩
     ·intro k hk h
      have:=(hun k).1 (by simpa using h)
      have:=zl034.1 hk
      omega
    ·intro k h1 h2;exact (hun k).2 ⟨h2,by omega⟩
    ·rw [List.length_range'];omega
    ·intro k hk h;have:=(hun k).1 h;omega
 | seq x y ihx ihy =>
  intro Q Q' s a w hr h hQ
  simp only [eU,hcode] at h
  refine wp_seq (ihx _ _ s a w hr h ?_)
  intro e s' a' w' hr' hq
  cases e with
  | normal =>
   obtain ⟨s2,hw,h2⟩:=hq
   exact ihy Q Q' s2 a' w' (hw _ _ _ hr') h2 hQ
  | exit id=>exact hQ _ _ _ _ hr' hq
  | ret=>exact hQ _ _ _ _ hr' hq
 | cond c x y ihx ihy =>
  intro Q Q' s a w hr h hQ
  simp only [eU,hcode] at h
  generalize hv:ev s.sl (dw c)=v at h
  cases v<;>simp only at h<;>(first|exact h.elim|skip)
  rename_i t
  have hc:a.eval c=.bool t:=by
   obtain ⟨loc,fp,hr0⟩:=hr
   have h1:=hr0.val c
   rw [kV] at hv
   rw [hv] at h1
   exact of_bool h1
  refine wp_cond_split hc (fun ht=>?_) (fun ht=>?_)
  ·obtain ⟨s2,hw,h2⟩:=h.1 ht;exact ihx Q Q' s2 a w (hw _ _ _ hr) h2 hQ
  ·obtain ⟨s2,hw,h2⟩:=h.2 ht;exact ihy Q Q' s2 a w (hw _ _ _ hr) h2 hQ
 | block id b ih =>
  intro Q Q' s a w hr h hQ
  simp only [eU,hcode] at h
  refine wp_block (ih _ _ s a w hr h ?_)
  intro e s' a' w' hr' hq
  cases e with
  | normal=>exact hQ .normal _ _ _ hr' hq
  | exit i =>
   simp only [PQ,Exit.inBlock]
   simp only at hq
   split at hq
   ·rename_i he;rw [if_pos he];exact hQ .normal _ _ _ hr' hq
   ·rename_i he;rw [if_neg he];exact hQ (.exit i) _ _ _ hr' hq
  | ret=>exact hQ .ret _ _ _ hr' hq
 | loop b ih =>
  intro Q Q' s a w hr h hQ
  simp only [eU,hcode] at h
  obtain ⟨I,μ,⟨s0,hw0,hI0⟩,round⟩:=h
  refine wp_loop_ghost (fun n a w=>∃s,SRel E s.nx s a w/\I s/\μ s=n) (μ s0) ⟨s0,hw0 _ _ _ hr,hI0,rfl⟩ ?_
  intro n a1 w1 ⟨s1,hr1,hI1,hn1⟩
  obtain ⟨s0',hw0',hround⟩:=round s1 hI1
  refine ih _ _ s0' a1 w1 (hw0' _ _ _ hr1) hround ?_
  intro e s' a' w' hr' hq
  cases e with
  | normal =>
   obtain ⟨s2,hw2,hI2,hlt⟩:=hq
   exact ⟨μ s2,by omega,s2,hw2 _ _ _ hr',hI2,rfl⟩
  | exit id=>exact hQ _ _ _ _ hr' hq
  | ret=>exact hQ _ _ _ _ hr' hq
 | exit id=>intro Q Q' s a w hr h hQ;exact wp_exit (hQ (.exit id) s a w hr h)
 | ret=>intro Q Q' s a w hr h hQ;exact wp_ret (hQ .ret s a w hr h)
 | scope b ih =>
  intro Q Q' s a w hr h hQ
  refine wp_scope_straight (ih Q _ s a w hr h ?_)
  intro e s' a' w' hr' hq
  cases e with
  | normal=>exact hQ .normal _ _ _ hr' hq
  | exit i=>exact hQ (.exit i) _ _ _ hr' hq
  | ret=>exact hQ .ret _ _ _ hr' hq
 | label l=>intro Q Q' s a w hr h hQ;exact wp_label (hQ .normal s a w hr h)
 | goto l=>intro Q Q' s a w hr h hQ;exact h.elim
 | refuse y=>intro Q Q' s a w hr h hQ;exact h.elim
 | rangeFunc f p x y _ _=>intro Q Q' s a w hr h hQ;exact h.elim
end
section
variable {P:Program} {E:Fr} {N:Nat} {sl st:Lk} {loc:Nat->Value} {fp:Nat->List Nat} {a:Act} {w:World}
end
def aB:Nat->List HV->List (Nat×HV)
 | _,[]=>[]
 | k,v::r=>(k,v)::aB (k+1) r
def finish (rs:List Nat) (K:HV->Prop):HE->St->Prop:=fun e s =>
 match e with
 | .exit _=>False
 | _=>(ak s.M (rs.map fun r=>au r s.sl)).2.2/\K (fJ (ak s.M (rs.map fun r=>au r s.sl)).1)
def tmpsOf:List ResultVar->Option (List Nat)
 | []=>some []
 | .tmp t::r=>(tmpsOf r).map (t::·)
 | .cell ..::_=>none
def Qi (tmps:Array Value) (x:ResultVar):Sem Value :=
 match x with
 | .tmp t=>pure (tmps.getD t undef)
 | .cell a t=>do loadVar t (<- asAddr (tmps.getD a undef))
theorem MC {P:Program} (tmps:Array Value) (w:World):∀ (l:List ResultVar) (rs:List Nat),tmpsOf l=some rs->(l.mapM (Qi tmps)).run P w=.ok (rs.map fun r=>tmps.getD r undef) w:=by
 intro l
 induction l with
 | nil=>intro rs h;simp [tmpsOf] at h;subst h;simp
 | cons x l ih =>
  intro rs h
  cases x with
  | cell=>simp [tmpsOf] at h
  | tmp t =>
   simp only [tmpsOf,Option.map_eq_some_iff] at h
   obtain ⟨rs',h1,rfl⟩:=h
   have:=ih rs' h1
   rw [List.mapM_cons]
   simp only [Sem.run_bind,Sem.run_pure,Result.andThen_ok,this,iy,Qi]
theorem qW {P:Program} {fn:Func} {rs:List Nat} (h:tmpsOf fn.results.toList=some rs) (tmps:Array Value) (w:World) :
  (results fn tmps).run P w=.ok (match rs.map fun r=>tmps.getD r undef with|[v]=>v|vs=>.tuple vs.toArray) w:=by
 have h1:=MC (P:=P) tmps w _ _ h
 unfold results
 rw [Array.mapM_eq_mapM_toList]
 simp only [map_eq_pure_bind,Sem.run_bind,Sem.run_pure]
 change ((Sem.run P (List.mapM (Qi tmps) fn.results.toList) w).andThen _).andThen _=_
 rw [h1]
 simp only [Result.andThen_ok]
 congr 1
 generalize rs.map (fun r=>tmps.getD r undef)=vs
 match vs with
 | []=>rw [dif_neg (by simp)]
 | [v]=>rw [dif_pos (by simp)];rfl
 | _::_::_=>rw [dif_neg (by simp)]
theorem lg (t:Nat):∀ (args:List HV) (k:Nat),au t (aB k args)=if k<=t then args.getD (t - k) .dead else .dead:=by
 intro args
 induction args with
 | nil=>intro k;simp [aB,au]
 | cons v args ih =>
  intro k
  simp only [aB,au]
  by_cases h:k=t
  ·subst h;simp
  ·rw [if_neg h,ih]
   by_cases h2:k<=t
   ·rw [if_pos (by omega),if_pos h2]
    have:t - k=(t - (k+1))+1:=by omega
    rw [this];simp
   ·rw [if_neg (by omega),if_neg h2]
theorem ED {B:Nat} {F:Nat->Prop} {w0:World} {G:Nat->Prop} {A:Nat->Value} (rargs:List Value) (T:Nat) (h:rargs.length<=T):LZ ⟨B,F,w0,MQ T,G,A⟩ { tmps:=rargs.toArray++Array.replicate (T - rargs.toArray.size) undef,defers:=[] }:=by
 have hs:(rargs.toArray++Array.replicate (T - rargs.toArray.size) undef).size=T:=by simp;show rargs.length+(T - rargs.length)=T;omega
 refine ⟨fun t ht=>?_,fun t ht=>.inr ?_⟩
 ·simp only [MQ,decide_eq_true_eq] at ht
  simp only
  rw [hs];exact ht
 ·simp only [MQ,decide_eq_false_iff_not] at ht
  simp only
  rw [iw,uj (by rw [hs];omega)];rfl
def LJ (L T:Nat):Nat->Bool:=fun t=>decide (L<=t)&&decide (t<T)
theorem vT {B:Nat} {F:Nat->Prop} {w0:World} {G:Nat->Prop} (rargs:List Value) (L T:Nat) (h:rargs.length<=T):LZ ⟨B,F,w0,LJ L T,G,fun t=>rargs.getD t undef⟩ { tmps:=rargs.toArray++Array.replicate (T - rargs.toArray.size) undef,defers:=[] }:=by
 have hs:(rargs.toArray++Array.replicate (T - rargs.toArray.size) undef).size=T:=by simp;show rargs.length+(T - rargs.length)=T;omega
 refine ⟨fun t ht=>?_,fun t ht=>?_⟩
 ·simp only [LJ,aG,decide_eq_true_eq] at ht
  simp only
  rw [hs];exact ht.2
 ·simp only
  by_cases h2:t<rargs.length
  ·refine .inl ?_
   rw [iw,IL (by simpa using h2)]
   simp [dW]
  ·refine .inr ?_
   rw [iw,Array.getElem?_append_right (by simp;show rargs.length<=t;omega),Array.getElem?_replicate]
   split<;>rfl
def Hu (L:Nat) (ops:List HOper):Bool:=ops.all fun o=>o.dst.all fun d=>decide (L<=d)
def HCode.low (L:Nat):HCode->Bool
 | .region _ ops=>Hu L ops
 | .seq a b=>a.low L&&b.low L
 | .cond _ a b=>a.low L&&b.low L
 | .block _ b=>b.low L
 | .loop b=>b.low L
 | _=>true
theorem GZ {P:Program} {L T:Nat} {o:Oper} (h:(aA P (MQ T) o).dst.all (fun d=>decide (L<=d))=true):aA P (LJ L T) o=aA P (MQ T) o:=by
 unfold aA at h ⊢
 cases hd:o.dst with
 | none=>simp [Option.all]
 | some d =>
  rw [hd] at h
  simp only [Option.all] at h ⊢
  simp only [LJ,MQ,h,Bool.true_and]
  try rfl
theorem Ai {P:Program} {L T:Nat}:∀ (c:Code),(eU P (MQ T) c).low L=true->eU P (LJ L T) c=eU P (MQ T) c:=by
 intro c
 induction c with
 | region i ops draw =>
  intro h
  simp only [eU,HCode.low,Hu,zl014] at h ⊢
  congr 1
  apply BJ
  intro o ho
  exact GZ (h _ (zl023.2 ⟨o,ho,rfl⟩))
 | seq a b ha hb=>intro h;simp only [eU,HCode.low,aG] at h ⊢;rw [ha h.1,hb h.2]
 | cond c a b ha hb=>intro h;simp only [eU,HCode.low,aG] at h ⊢;rw [ha h.1,hb h.2]
 | block i b hb=>intro h;simp only [eU,HCode.low] at h ⊢;rw [hb h]
 | loop b hb=>intro h;simp only [eU,HCode.low] at h ⊢;rw [hb h]
 | scope b hb=>intro h;simp only [eU] at h ⊢;rw [hb h]
 | _=>intro h;rfl
def KI (n m:Nat) (K:HV->List HV->Prop):HV->Prop:=fun r=>∃ts,r=fJ ts/\ts.length=n+m/\(∀o∈ts.drop n,∃cs,o=.optr cs)/\K (fJ (ts.take n)) (ts.drop n)
theorem BG {a b:List HV} (hl:a.length=b.length) (h:fJ a=fJ b):a=b:=by
 match a,b,hl with
 | [],[],_=>rfl
 | [x],[y],_=>simpa [fJ] using h
 | x1::x2::xs,y1::y2::ys,_=>simpa [fJ] using h
def valOf (vs:List Value):Value:=match vs with|[v]=>v|vs=>.tuple vs.toArray
theorem OW.tupOf_ {F:Nat->Prop} {h:Hp} {ts:List HV} {vs:List Value} {fs:List Nat} (o:OW F h dA ts vs fs):OW F h dA [fJ ts] [valOf vs] fs:=by
 have hl2:=o.length
 match ts,vs,hl2 with
 | [],[],_=>have:=OW.tup o .nil;simpa [fJ,valOf] using this
 | [t],[v],_=>exact o
 | t1::t2::ts,v1::v2::vs,_=>have:=OW.tup o .nil;simpa [fJ,valOf] using this
theorem HT.enter {P:Program} (hm:P.follows .mixedOrders=true) {f:FuncId} {fn:Func} {c:Code} {rs:List Nat} (hf:P.funcs[f]?=some fn) (hb:fn.body=some c) (hname:(fn.name == "runtime.NumGoroutine")=false) (hrs:tmpsOf fn.results.toList=some rs)
  {args:List HV} (hlen:args.length<=fn.ntmps) {K:HV->Prop} (s0:St) (hw0:Weak ⟨aB 0 args,[],0⟩ s0) (h:hcode P (eU P (MQ fn.ntmps) c) (finish rs K) s0):HT P f args K:=by
 refine ⟨⟨fn,hf,by simp [hb],hname⟩,?_⟩
 intro w rargs F hF hargs
 refine calls_of_wp hf hb ?_
 have hl:=hargs.length
 let E:Fr:=⟨w.heap.size,F,w,MQ fn.ntmps,fun _=>False,fun _=>undef⟩
 have hr:SRel E 0 ⟨aB 0 args,[],0⟩ { tmps:=rargs.toArray++Array.replicate (fn.ntmps - rargs.toArray.size) undef,defers:=[] } w:=by
  refine ⟨fun _=>undef,fun _=>[],⟨BelowG.refl _ _ _,aP _,ED rargs fn.ntmps (by omega),fun id h=>absurd rfl h,fun _ _=>rfl,fun _ _=>rfl,by simp,by simp,by simp,fun t=>?_,rfl⟩⟩
  have hS:(⟨aB 0 args,[],0⟩:St).S t=args.getD t .dead:=by
   show au t (aB 0 args)=_
   rw [lg];simp
  rw [hS]
  by_cases ht:t<args.length
  ·obtain ⟨rv,f1,f2,f3,h1,h2,h3,_⟩:=hargs.at t ht
   have h4:f2=[]:=by simp at h2;exact h2.2.1
   subst h4
   have h5:(rargs.toArray++Array.replicate (fn.ntmps - rargs.toArray.size) undef).getD t undef=rv:=by
    have:t<rargs.length:=by omega
    rw [iw,IL (by simpa using this)]
    simp [h1]
   simp only [h5]
   exact h3.stable (by simp) (fun b hb=>⟨⟨hF b hb,fun _=>.inl hb,by simp⟩,rfl⟩) (fun _ _ h=>h.elim)
  ·have:args.getD t .dead=.dead:=by simp [List.getD,jb (vX ht)]
   rw [this];exact .dead .nil
 refine rX (E:=E) hm c (finish rs K) _ s0 _ w (hw0 _ _ _ hr) h ?_
 intro e s' a' w' hr' hq
 obtain ⟨loc,fp,hr1⟩:=hr'
 have fin:(ak s'.M (rs.map fun r=>au r s'.sl)).2.2/\K (fJ (ak s'.M (rs.map fun r=>au r s'.sl)).1)->a'.defers=[]/\∃v,(results fn a'.tmps).run P w'=.ok v w' /\
   ∃rv res fs,Ending.returned v=.returned rv/\K res/\OW (fun b=>F b\/(w.heap.size<=b/\b<w'.heap.size/\b ∉ fs)) w'.heap dA [res] [rv] fs/\fs.Nodup/\(∀b∈fs,w.heap.size<=b)/\Below w.heap.size w w':=by
  rintro ⟨hvc,hK⟩
  have hv:OW (dX E fp w') w'.heap (RefR s'.nx s'.M loc w'.heap) (rs.map fun r=>au r s'.sl) (rs.map fun r=>a'.tmps.getD r undef) []:=by
   have:=hr1.vals (rs.map fun r=>Operand.tmp r)
   rw [iG,iG] at this
   exact this
  obtain ⟨ff,ids,T⟩:=iJ hr1 hv rfl rfl s'.M (fun _=>.inl rfl) hvc
  refine ⟨hr1.defers,_,qW hrs a'.tmps w',_,fJ (ak s'.M (rs.map fun r=>au r s'.sl)).1,ff,rfl,hK,?_,T.nodup,?_,⟨hr1.below.os,hr1.below.tape,hr1.below.output,hr1.below.size,fun k hk=>hr1.below.block k hk (fun h=>(h:False))⟩⟩
  ·have o2:OW (fun b=>F b\/(w.heap.size<=b/\b<w'.heap.size/\b ∉ ff)) w'.heap dA (ak s'.M (rs.map fun r=>au r s'.sl)).1 (rs.map fun r=>a'.tmps.getD r undef) ff:=by
    refine T.own.stable (fun _ _=>rfl) (fun b hb=>⟨?_,rfl⟩) (fun _ _ h=>h)
    by_cases hlt:b<w.heap.size
    ·exact .inl ((hb.2.1 hlt).resolve_right fun h=>(h:False))
    ·refine .inr ⟨by omega,hb.1,fun h=>?_⟩
     obtain ⟨id,_,h2⟩:=T.from_ b h
     exact hb.2.2 id h2
   generalize (ak s'.M (rs.map fun r=>au r s'.sl)).1=ts at *
   generalize (rs.map fun r=>a'.tmps.getD r undef)=vs at *
   have hl2:=o2.length
   match ts,vs,hl2 with
   | [],[],_=>have:=OW.tup o2 .nil;simpa [fJ] using this
   | [t],[v],_=>exact o2
   | t1::t2::ts,v1::v2::vs,_=>have:=OW.tup o2 .nil;simpa [fJ] using this
  ·intro b hb
   obtain ⟨id,_,h2⟩:=T.from_ b hb
   exact (hr1.fresh id b h2).resolve_right fun h=>(h:False)
 cases e with
 | normal=>exact fin hq
 | ret=>exact fin hq
 | exit i=>exact hq.elim
theorem HTI.enter {P:Program} (hm:P.follows .mixedOrders=true) {f:FuncId} {fn:Func} {c:Code} {rs:List Nat} (hf:P.funcs[f]?=some fn) (hb:fn.body=some c) (hname:(fn.name == "runtime.NumGoroutine")=false) (hrs:tmpsOf fn.results.toList=some rs)
  {args:List HV} (hlen:args.length<=fn.ntmps) {L:Nat} {io:List Nat} (hioL:∀j∈io,j<L) {K:HV->List HV->Prop} (s0:St) (hw0:Weak { ((⟨aB 0 (aH 0 args).1,[],0⟩:St).upd (aH 0 args).2.1) with nx:=(aH 0 args).2.2 } s0) (h:hcode P (eU P (LJ L fn.ntmps) c) (finish (rs++io) (KI rs.length io.length K)) s0):HTI P f args io K:=by
 refine ⟨⟨fn,hf,by simp [hb],hname⟩,?_⟩
 intro w rargs F fa hF hargs hnd hFa
 refine calls_of_wp hf hb ?_
 have hl:=hargs.length
 have hal:=hargs.lt
 let E:Fr:=⟨w.heap.size,F,w,LJ L fn.ntmps,fun b=>b∈fa,fun t=>rargs.getD t undef⟩
 have u:=hargs.unpack (fun _ _ h=>h) 0 hnd
 obtain ⟨Tt,l,p,a1,b1,c1,d1,e1,g1⟩:=u
 have hlen2:(aH 0 args).1.length=rargs.length:=by
  have:=(g1 (aH 0 args).2.2 Tt l (aP _) (fun id _ _=>⟨rfl,rfl⟩)).length
  exact this
 have hr:SRel E (aH 0 args).2.2 { ((⟨aB 0 (aH 0 args).1,[],0⟩:St).upd (aH 0 args).2.1) with nx:=(aH 0 args).2.2 } { tmps:=rargs.toArray++Array.replicate (fn.ntmps - rargs.toArray.size) undef,defers:=[] } w:=by
  generalize (aH 0 args)=U at *
  have hM:∀id,((⟨aB 0 U.1,[],0⟩:St).upd U.2.1).M id=if id<U.2.2 then Tt id else .dead:=fun id=>by
   rw [St.upd_M,b1]
   simp only [gX,true_and]
   rfl
  have hS:∀t,((⟨aB 0 U.1,[],0⟩:St).upd U.2.1).S t=U.1.getD t .dead:=fun t=>by
   rw [St.upd_S,c1]
   show au t (aB 0 U.1)=_
   rw [lg];simp
  have fz:∀b,F b->dX E (fun id=>if id<U.2.2 then p id else []) w b:=fun b hb=>⟨hF b hb,fun _=>.inl hb,fun id=>by
   by_cases h:id<U.2.2
   ·simp only [h,if_true];exact fun h2=>hFa b ((d1 id (gX _) h).2.2.2 b h2) hb
   ·simp only [h,if_false];simp⟩
  refine ⟨fun id=>if id<U.2.2 then l id else undef,fun id=>if id<U.2.2 then p id else [],⟨BelowG.refl _ _ _,aP _,?_,fun id h=>?_,fun id h=>?_,fun id h=>?_,fun id=>?_,fun i j hij b hb hb'=>?_,fun id b hb=>?_,fun t=>?_,rfl⟩⟩
  ·exact vT rargs L fn.ntmps (by omega)
  ·show OW _ _ _ [((⟨aB 0 U.1,[],0⟩:St).upd U.2.1).M id] _ _
   have h':((⟨aB 0 U.1,[],0⟩:St).upd U.2.1).M id≠.dead:=h
   rw [hM] at h' ⊢
   by_cases h2:id<U.2.2
   ·simp only [h2,if_true]
    exact (d1 id (gX _) h2).2.1.stable (fun _ _=>rfl) (fun b hb=>⟨fz b hb,rfl⟩) (fun _ _ h=>h)
   ·rw [if_neg h2] at h';exact absurd rfl h'
  ·have h':((⟨aB 0 U.1,[],0⟩:St).upd U.2.1).M id=.dead:=h
   rw [hM] at h'
   by_cases h2:id<U.2.2
   ·rw [if_pos h2] at h';exact absurd h' (d1 id (gX _) h2).1
   ·simp only [h2,if_false]
  ·show ((⟨aB 0 U.1,[],0⟩:St).upd U.2.1).M id=.dead
   rw [hM,if_neg (by omega)]
  ·by_cases h2:id<U.2.2
   ·simp only [h2,if_true];exact (d1 id (gX _) h2).2.2.1
   ·simp only [h2,if_false];exact .nil
  ·by_cases h1:i<U.2.2
   ·by_cases h2:j<U.2.2
    ·simp only [h1,h2,if_true] at hb hb'
     exact e1 i j (gX _) h1 (gX _) h2 hij b hb hb'
    ·simp only [h2,if_false] at hb';cases hb'
   ·simp only [h1,if_false] at hb;cases hb
  ·by_cases h2:id<U.2.2
   ·simp only [h2,if_true] at hb
    exact .inr ((d1 id (gX _) h2).2.2.2 b hb)
   ·simp only [h2,if_false] at hb;cases hb
  ·show OW _ _ _ [((⟨aB 0 U.1,[],0⟩:St).upd U.2.1).S t] _ _
   rw [hS]
   have o2:=g1 U.2.2 (((⟨aB 0 U.1,[],0⟩:St).upd U.2.1).M) (fun id=>if id<U.2.2 then l id else undef) (aP _) (fun id _ h2=>⟨by rw [hM,if_pos h2],by simp [h2]⟩)
   by_cases ht:t<U.1.length
   ·obtain ⟨rv,f1,f2,f3,h1,h2,h3,_⟩:=o2.at t ht
    have h4:f2=[]:=by simp at h2;exact h2.2.1
    subst h4
    have h5:(rargs.toArray++Array.replicate (fn.ntmps - rargs.toArray.size) undef).getD t undef=rv:=by
     have:t<rargs.length:=by omega
     rw [iw,IL (by simpa using this)]
     simp [h1]
    simp only [h5]
    exact h3.stable (by simp) (fun b hb=>⟨fz b hb,rfl⟩) (fun _ _ h=>h)
   ·have:U.1.getD t .dead=.dead:=by simp [List.getD,jb (vX ht)]
    rw [this];exact .dead .nil
 refine rX (E:=E) hm c (finish (rs++io) (KI rs.length io.length K)) _ s0 _ w (hw0 _ _ _ hr) h ?_
 intro e s' a' w' hr' hq
 obtain ⟨loc,fp,hr1⟩:=hr'
 have fin:(ak s'.M ((rs++io).map fun r=>au r s'.sl)).2.2/\KI rs.length io.length K (fJ (ak s'.M ((rs++io).map fun r=>au r s'.sl)).1)->a'.defers=[]/\∃v,(results fn a'.tmps).run P w'=.ok v w' /\
   ∃rv res outs fs,Ending.returned v=.returned rv/\K res outs/\OW (fun b=>F b\/((b<w.heap.size->b∈fa)/\b<w'.heap.size/\b ∉ fs)) w'.heap dA (res::outs) (rv::io.map fun j=>rargs.getD j undef) fs/\fs.Nodup/\(∀b∈fs,w.heap.size<=b\/b∈fa)/\BelowG w.heap.size (fun b=>b∈fa) w w':=by
  rintro ⟨hvc,ts,hts,htl,hop,hK⟩
  have hv:OW (dX E fp w') w'.heap (RefR s'.nx s'.M loc w'.heap) ((rs++io).map fun r=>au r s'.sl) ((rs++io).map fun r=>a'.tmps.getD r undef) []:=by
   have:=hr1.vals ((rs++io).map fun r=>Operand.tmp r)
   rw [iG,iG] at this
   exact this
  obtain ⟨ff,ids,T⟩:=iJ hr1 hv rfl rfl s'.M (fun _=>.inl rfl) hvc
  have hown:=T.own
  have hll:=hown.length
  rw [fK,kL] at hll
  have hts2:=BG (by rw [hll,htl]) hts
  rw [hts2] at hown
  have o2:OW (fun b=>F b\/((b<w.heap.size->b∈fa)/\b<w'.heap.size/\b ∉ ff)) w'.heap dA ts ((rs++io).map fun r=>a'.tmps.getD r undef) ff:=by
   refine hown.stable (fun _ _=>rfl) (fun b hb=>⟨?_,rfl⟩) (fun _ _ h=>h)
   have hnf:b ∉ ff:=fun h=>by
    obtain ⟨id,_,h2⟩:=T.from_ b h
    exact hb.2.2 id h2
   by_cases hlt:b<w.heap.size
   ·rcases hb.2.1 hlt with h|h
    ·exact .inl h
    ·exact .inr ⟨fun _=>h,hb.1,hnf⟩
   ·exact .inr ⟨fun h=>absurd h hlt,hb.1,hnf⟩
  rw [<- yc rs.length ts] at o2
  obtain ⟨ru,rw',f1,f2,e1',e2',hl1,oa,ob⟩:=o2.splitAt
  rw [List.map_append] at e1'
  have hl3:ru.length=(rs.map fun r=>a'.tmps.getD r undef).length:=by rw [hl1,gB,fK];omega
  obtain ⟨rfl,rfl⟩:=List.append_inj e1' hl3.symm
  have hsame:(io.map fun r=>a'.tmps.getD r undef)=io.map fun j=>rargs.getD j undef:=by
   apply BJ
   intro j hj
   obtain ⟨k,hk,hkj⟩:=Gg hj
   have hkd:k<(ts.drop rs.length).length:=by rw [lT];omega
   obtain ⟨rv,g1,g2,g3,a1',a2',a3',_⟩:=ob.at k hkd
   obtain ⟨cs,hcs⟩:=hop _ (Bq hkd)
   rw [dW,dS hkd,gV,hcs] at a3'
   simp only [iT,dS hk,iq,bY] at a1'
   rw [hkj] at a1'
   rw [<- a1'] at a3'
   rcases hr1.size.kept j (by simp only [E,LJ,Bool.and_eq_false_iff,decide_eq_false_iff_not];have:=hioL j hj;omega) with h|h
   ·exact h
   ·rw [h] at a3'
    generalize hu:undef=u at a3'
    cases a3' with
    | leaf _ _ _ _ _ _ g _=>exact g.elim
    | optr _ _ _=>cases hu
  rw [hsame] at ob
  refine ⟨hr1.defers,_,qW hrs a'.tmps w',_,fJ (ts.take rs.length),ts.drop rs.length,ff,rfl,hK,?_,T.nodup,?_,hr1.below⟩
  ·rw [e2']
   rw [e2'] at oa ob
   have:=oa.tupOf_
   exact this.cons1 ob
  ·intro b hb
   obtain ⟨id,_,h2⟩:=T.from_ b hb
   exact hr1.fresh id b h2
 cases e with
 | normal=>exact fin hq
 | ret=>exact fin hq
 | exit i=>exact hq.elim
theorem HT.mono {P:Program} {f:FuncId} {args:List HV} {K K':HV->Prop} (h:HT P f args K) (hk:∀r,K r->K' r):HT P f args K' :=
 ⟨h.1,fun w rargs F hF hargs=>(h.2 w rargs F hF hargs).mono fun _ _ ⟨rv,res,fs,h1,h2,h3⟩=>⟨rv,res,fs,h1,hk _ h2,h3⟩⟩
structure uq (C:CallSpec):Prop where
 ap:∀f args (K K':HV->Prop),C f args K->(∀r,K r->K' r)->C f args K'
 sem:∀s i d o (K K':St->Prop),C.sem s i d o K->(∀s,K s->K' s)->C.sem s i d o K'
 eqv:∀s s' i d o (K:St->Prop),s.S=s'.S->s.M=s'.M->s.nx=s'.nx->C.sem s i d o K->C.sem s' i d o K
theorem HT.cmono (P:Program):uq (HS P):=⟨fun _ _ _ _ h hk=>HT.mono h hk,fun _ _ _ _ _ _ h hk=>Hf h hk,fun s s' i d o K h1 h2 h3 h E ro a w next Q hd ho hr hn =>
 h E ro a w next Q hd ho (by unfold SRel at hr ⊢;rw [h1,h2,h3];exact hr) fun t a' w' e hr' hK=>hn t a' w' (by rw [<- h3];exact e) (by rw [<- h3];exact hr') hK⟩
theorem Fj {C:CallSpec} (hC:uq C) {s:St} {i:Nat} {o:HOper} {K K':St->Prop} (h:hop C s i o K) (hk:∀s,K s->K' s):hop C s i o K':=by
 rcases h with h|h
 ·refine .inl ?_
  unfold hop0 at *
  split at h
  ·exact hC.ap _ _ _ _ h fun r hr=>⟨hr.1,hr.2.1,hk _ hr.2.2⟩
  ·exact hC.ap _ _ _ _ h fun r hr=>⟨hr.1,hr.2.1,hk _ hr.2.2⟩
  ·exact ⟨h.1,hk _ h.2⟩
 ·exact .inr (hC.sem _ _ _ _ _ _ h hk)
theorem sO {C:CallSpec} (hC:uq C) {all:List HOper}:∀ {r:List HOper} {i:Nat} {s:St} {K K':St->Prop},hops C all r i K s->(∀s,K s->K' s)->hops C all r i K' s:=by
 intro r
 induction r with
 | nil=>intro i s K K' h hk;exact hk _ h
 | cons o r ih =>
  intro i s K K' h hk
  have ih':∀s,hops C all r (i+1) K s->hops C all r (i+1) K' s:=fun s hs=>ih hs hk
  simp only [hops] at h ⊢
  split at h
  ·exact Fj hC h ih'
  ·split at h
   ·exact ⟨fun hb=>Fj hC (h.1 hb) ih',fun hb=>ih' _ (h.2 hb)⟩
   ·exact ih' _ h
   ·exact h
theorem DV {C:CF} {D:DS} {all:List HOper} {masks:List Nat} {nx:Nat} {K K':Lk->Lk->Prop} (hk:∀S M,K S M->K' S M):∀ {l:List Nat} {log:pU} {S M:Lk},dr C D all masks nx K l log S M->dr C D all masks nx K' l log S M:=by
 intro l
 induction l with
 | nil=>intro log S M h;exact hk _ _ h
 | cons i l ih =>
  intro log S M h
  obtain ⟨o,ho,hs,he,h⟩:=h
  exact ⟨o,ho,hs,he,fun e hre=>⟨(h e hre).1,ih (h e hre).2⟩⟩
theorem uG {P:Program}:∀ {m:Nat} {ops:List HOper} {K K':St->Prop} {s:St},qw P m ops K s->(∀s,K s->K' s)->qw P m ops K' s:=by
 intro m
 induction m with
 | zero=>intro ops K K' s h hk;exact sO (HT.cmono P) h fun s hs=>hk _ hs
 | succ m ih =>
  intro ops K K' s h hk
  rcases h with h|⟨n,h0,h1,h2,h⟩|⟨o,r,h0,h1,h⟩
  ·exact .inl (sO (HT.cmono P) h fun s hs=>hk _ hs)
  ·exact .inr (.inl ⟨n,h0,h1,h2,sO (HT.cmono P) h fun s ⟨s2,hw,hs⟩=>⟨s2,hw,ih hs hk⟩⟩)
  ·exact .inr (.inr ⟨o,r,h0,h1,zT h fun s1 ⟨s2,hw,hs⟩=>⟨s2,hw,ih hs hk⟩⟩)
theorem MV {P:Program}:∀ {m m':Nat} {ops:List HOper} {K:St->Prop} {s:St},qw P m ops K s->m<=m'->qw P m' ops K s:=by
 intro m
 induction m with
 | zero =>
  intro m' ops K s h _
  cases m' with
  | zero=>exact h
  | succ m'=>exact .inl h
 | succ m ih =>
  intro m' ops K s h hm
  cases m' with
  | zero=>omega
  | succ m' =>
   rcases h with h|⟨n,h0,h1,h2,h⟩|⟨o,r,h0,h1,h⟩
   ·exact .inl h
   ·exact .inr (.inl ⟨n,h0,h1,h2,sO (HT.cmono P) h fun s ⟨s2,hw,hs⟩=>⟨s2,hw,ih hs (by omega)⟩⟩)
   ·exact .inr (.inr ⟨o,r,h0,h1,zT h fun s1 ⟨s2,hw,hs⟩=>⟨s2,hw,ih hs (by omega)⟩⟩)
theorem BZ {P:Program} {ops:List HOper} {K:St->Prop} {s:St} (h:hops (HS P) ops ops 0 (fun s1=>K { s1 with nx:=s1.nx+stride*ops.length }) s):qw P ops.length ops K s:=MV (m:=0) h (gX _)
theorem Ht {P:Program} {masks:List Nat} {ops:List HOper} {K K':St->Prop} {s:St} (h:Jc P masks ops K s) (hk:∀s,K s->K' s):Jc P masks ops K' s:=by
 obtain ⟨h1,h⟩:=h
 refine ⟨h1,fun hI=>?_⟩
 rcases h hI with ⟨D,h2⟩|⟨n,D,hs,h2⟩|⟨m,n,D,hf,hmn,hs,h2⟩
 ·exact .inl ⟨D,DV (fun S M ⟨s',a,b,c,d⟩=>⟨s',a,b,c,hk _ d⟩) h2⟩
 ·exact .inr (.inl ⟨n,D,hs,DV (fun S M ⟨s',s2,a,b,c,d,e⟩=>⟨s',s2,a,b,c,d,uG e fun _ h=>hk _ h⟩) h2⟩)
 ·exact .inr (.inr ⟨m,n,D,hf,hmn,hs,DV (fun S M ⟨s',s2,a,b,c,d,e⟩=>⟨s',s2,a,b,c,d,uG e fun _ h=>hk _ h⟩) h2⟩)
def CS (P:Program) (D:FuncId->List HV->HV->Prop):CallSpec:={ ap:=fun f args K=>HT P f args (D f args)/\(∃r,D f args r/\r.deep=[])/\∀r,D f args r->r.deep=[]->K r }
theorem CS.cmono (P:Program) (D:FuncId->List HV->HV->Prop):uq (CS P D):=⟨fun _ _ _ _ h hk=>⟨h.1,h.2.1,fun r a b=>hk r (h.2.2 r a b)⟩,fun _ _ _ _ _ _ h _=>h.elim,fun _ _ _ _ _ _ _ _ _ h=>h.elim⟩
def Eh (masks:List Nat) (all:List HOper):Bool :=
 (List.range all.length).all fun i=>(List.range i).all fun k=>nN masks k i || (match all[k]?,all[i]? with|some x,some y=>!LK x y|_,_=>true)
theorem IZ {P:Program} {D:FuncId->List HV->HV->Prop} {ops:List HOper} {masks:List Nat} {nx:Nat} {K:St->Prop} (hns:Eh masks ops=true):∀ (rest:List HOper) (i:Nat) (log:pU) (s:St),ops.drop i=rest->s.nx=nx->(∀q∈log,q.1<i)->hops (CS P D) ops rest i K s ->
  dr (HT2 P) (DS.of D) ops masks nx (fun S M=>∃s':St,s'.S=S/\s'.M=M/\s'.nx=nx/\K s') (List.range' i rest.length) log s.S s.M:=by
 intro rest
 induction rest with
 | nil=>intro i log s _ hnx _ h;exact ⟨s,rfl,rfl,hnx,h⟩
 | cons o rest ih =>
  intro i log s hdrop hnx hlog h
  have hoi:ops[i]?=some o:=by
   have:=congrArg (fun l:List HOper=>l[0]?) hdrop
   simpa using this
  have hdrop':ops.drop (i+1)=rest:=by
   have:=congrArg (List.drop 1) hdrop
   simpa [nR,jI] using this
  simp only [List.length_cons,C9]
  have hil:=(zl030.1 hoi).1
  have ck:∀e:HV×List dJ,∀q∈log,chk (DS.of D).own masks ops i o e s.S q:=by
   intro e q hq b1 _ o' ho' hs
   have hlt:=hlog q hq
   simp only [Eh,zl014,zl034,uy] at hns
   rcases hns i hil q.1 hlt with h|h
   ·rw [b1] at h;cases h
   ·rw [ho',hoi] at h
    simp only [uu] at h
    rw [<- Am] at h
    exact absurd (h.symm.trans hs) (by simp)
  have stepS:∀ (us:List dJ) (v:HV),((s.upd us).put o.dst v).S=jY o (v,us) s.S:=fun us v=>by rw [St.put_S,St.upd_S];rfl
  have stepM:∀ (us:List dJ) (v:HV),((s.upd us).put o.dst v).M=sV (v,us) s.M:=fun us v=>by rw [St.put_M,St.upd_M];rfl
  have next:∀ (us:List dJ) (v:HV) ent,ent.1=i->hops (CS P D) ops rest (i+1) K ((s.upd us).put o.dst v)->dr (HT2 P) (DS.of D) ops masks nx (fun S M=>∃s':St,s'.S=S/\s'.M=M/\s'.nx=nx/\K s') (List.range' (i+1) rest.length) (ent::log) (jY o (v,us) s.S) (sV (v,us) s.M):=by
   intro us v ent he h'
   have:=ih (i+1) (ent::log) ((s.upd us).put o.dst v) hdrop' (by rw [St.put_nx,St.upd_nx];exact hnx) (fun q hq=>by
    rcases zl008.1 hq with rfl|hq
    ·omega
    ·have:=hlog q hq;omega) h'
   rw [stepS,stepM] at this
   exact this
  have hstr:s.nx+stride*(i+1)=nx+stride*i+stride:=by rw [hnx];unfold stride;omega
  have run:gd ops o s.S=some true->hop (CS P D) s i o (hops (CS P D) ops rest (i+1) K)->∃o',ops[i]?=some o'/\dU (HT2 P) (DS.of D) ops (nx+stride*i) o' s.S s.M/\(∃e,fZ (DS.of D) ops (nx+stride*i) o' s.S s.M e)/\∀e,fZ (DS.of D) ops (nx+stride*i) o' s.S s.M e->(∀q∈log,chk (DS.of D).own masks ops i o' e s.S q)/\dr (HT2 P) (DS.of D) ops masks nx (fun S M=>∃s':St,s'.S=S/\s'.M=M/\s'.nx=nx/\K s') (List.range' (i+1) rest.length) ((i,vZ o' s.S e.2,qg o' s.S)::log) (jY o' e s.S) (sV e s.M):=by
   intro hg hh
   refine ⟨o,hoi,?_⟩
   unfold dU fZ
   rw [hg]
   simp only
   have hM:(fun i=>au i s.st)=s.M:=rfl
   replace hh:=hh.resolve_right (fun h=>h)
   unfold hop0 at hh
   rw [kV,hM,hstr,hnx] at hh
   have callc:∀ (f:FuncId) (args xs:List HV),(CS P D f args fun r=>(aI xs || r.noRd)=true/\(unpack (nx+stride*i) r).2.2<=nx+stride*i+stride/\hops (CS P D) ops rest (i+1) K ((s.upd (unpack (nx+stride*i) r).2.1).put o.dst (unpack (nx+stride*i) r).1)) ->
     (HT P f args (D f args)/\∀r,D f args r->r.deep=[]->(aI xs || r.noRd)=true/\(unpack (nx+stride*i) r).2.2<=nx+stride*i+stride)/\(∃e:HV×List dJ,∃r,D f args r/\r.deep=[]/\e=((unpack (nx+stride*i) r).1,(unpack (nx+stride*i) r).2.1)) /\
     ∀e:HV×List dJ,(∃r,D f args r/\r.deep=[]/\e=((unpack (nx+stride*i) r).1,(unpack (nx+stride*i) r).2.1))->(∀q∈log,chk (DS.of D).own masks ops i o e s.S q)/\dr (HT2 P) (DS.of D) ops masks nx (fun S M=>∃s':St,s'.S=S/\s'.M=M/\s'.nx=nx/\K s') (List.range' (i+1) rest.length) ((i,vZ o s.S e.2,qg o s.S)::log) (jY o e s.S) (sV e s.M):=by
    rintro f args xs ⟨c1,⟨r0,c2,c3⟩,c4⟩
    refine ⟨⟨c1,fun r a b=>⟨(c4 r a b).1,(c4 r a b).2.1⟩⟩,⟨_,r0,c2,c3,rfl⟩,?_⟩
    rintro e ⟨r,d1,d2,rfl⟩
    exact ⟨ck _,next _ _ _ rfl (c4 r d1 d2).2.2⟩
   split at hh
   ·rename_i f xs heq
    rw [heq]
    simp only [ku,lM]
    simp only [if_neg (show ¬ (DS.of D).own f=true from fun h=>Bool.noConfusion h)]
    exact callc f _ xs hh
   ·rename_i f cap xs heq
    rw [heq]
    exact callc f _ (xs++cap) hh
   ·rename_i op h1 h2
    have e1:ku (HT2 P) (DS.of D) s.M (nx+stride*i) (o.op.map (bT s.S))=(ae s.M (nx+stride*i) (o.op.map (bT s.S))).2.2:=by
     unfold ku;split
     ·rename_i f xs heq;exact absurd heq (h1 f xs)
     ·rename_i f cap xs heq;exact absurd heq (h2 f cap xs)
     ·rfl
    have e2:∀e,lM (DS.of D) s.M (nx+stride*i) e (o.op.map (bT s.S))=(e=((ae s.M (nx+stride*i) (o.op.map (bT s.S))).1,(ae s.M (nx+stride*i) (o.op.map (bT s.S))).2.1)):=fun e=>by
     unfold lM;split
     ·rename_i f xs heq;exact absurd heq (h1 f xs)
     ·rename_i f cap xs heq;exact absurd heq (h2 f cap xs)
     ·rfl
    rw [e1]
    simp only [e2]
    refine ⟨hh.1,⟨_,rfl⟩,?_⟩
    rintro e rfl
    exact ⟨ck _,next _ _ _ rfl hh.2⟩
  simp only [hops] at h
  cases hg:o.guard with
  | none =>
   rw [hg] at h
   exact run (by unfold gd;rw [hg]) h
  | some jw =>
   obtain ⟨j,want⟩:=jw
   rw [hg] at h
   simp only at h
   cases hd:(ops[j]?).bind (·.dst) with
   | none=>rw [hd] at h;exact h.elim
   | some d =>
    rw [hd] at h
    simp only [iq] at h
    generalize hv:au d s.sl=v at h
    cases v with
    | bool b =>
     simp only at h
     have hv':s.S d=.bool b:=hv
     have hgd:gd ops o s.S=some (b==want):=by unfold gd;rw [hg];simp only [hd,iq,hv']
     by_cases hbw:b=want
     ·exact run (by rw [hgd];simp [hbw]) (h.1 hbw)
     ·refine ⟨o,hoi,?_⟩
      have:(b==want)=false:=by simpa using hbw
      unfold dU fZ
      rw [hgd,this]
      simp only
      refine ⟨trivial,⟨_,rfl⟩,?_⟩
      rintro e rfl
      exact ⟨ck _,next [] (.tup []) _ rfl (h.2 hbw)⟩
    | tup cs =>
     cases cs with
     | cons _ _=>exact h.elim
     | nil =>
      simp only at h
      have hv':s.S d=.tup []:=hv
      have hgd:gd ops o s.S=some false:=by unfold gd;rw [hg];simp only [hd,iq,hv']
      refine ⟨o,hoi,?_⟩
      unfold dU fZ
      rw [hgd]
      simp only
      refine ⟨trivial,⟨_,rfl⟩,?_⟩
      rintro e rfl
      exact ⟨ck _,next [] (.tup []) _ rfl h⟩
    | _=>exact h.elim
theorem pJ {P:Program}:∀ {c:HCode} {Q Q':HE->St->Prop} {s:St},hcode P c Q s->(∀e s,Q e s->Q' e s)->hcode P c Q' s:=by
 intro c
 induction c with
 | skip=>intro Q Q' s h hq;exact hq _ _ h
 | region inc ops =>
  intro Q Q' s h hq
  cases inc with
  | none=>exact uG h fun s hs=>hq _ _ hs
  | some inc=>exact Ht h fun s hs=>hq _ _ hs
 | seq a b iha ihb =>
  intro Q Q' s h hq
  refine iha (Q':=fun e s1=>match e with|.normal=>∃s',Weak s1 s'/\hcode P b Q' s'|e=>Q' e s1) h ?_
  intro e s1 h1
  cases e with
  | normal=>obtain ⟨s',hw,h2⟩:=h1;exact ⟨s',hw,ihb h2 hq⟩
  | exit i=>exact hq _ _ h1
  | ret=>exact hq _ _ h1
 | cond c a b iha ihb =>
  intro Q Q' s h hq
  simp only [hcode] at h ⊢
  split at h
  ·exact ⟨fun ht=>by obtain ⟨s',hw,h2⟩:=h.1 ht;exact ⟨s',hw,iha h2 hq⟩,fun ht=>by obtain ⟨s',hw,h2⟩:=h.2 ht;exact ⟨s',hw,ihb h2 hq⟩⟩
  ·exact h
 | block id b ih =>
  intro Q Q' s h hq
  refine ih (Q':=fun e s1=>match e with|.exit i=>if i=id then Q' .normal s1 else Q' (.exit i) s1|e=>Q' e s1) h ?_
  intro e s1 h1
  cases e with
  | normal=>exact hq _ _ h1
  | exit i =>
   simp only at h1 ⊢
   split at h1
   ·rename_i hi;rw [if_pos hi];exact hq _ _ h1
   ·rename_i hi;rw [if_neg hi];exact hq _ _ h1
  | ret=>exact hq _ _ h1
 | loop b ih =>
  intro Q Q' s h hq
  obtain ⟨I,μ,h0,hr⟩:=h
  refine ⟨I,μ,h0,fun s hs=>?_⟩
  obtain ⟨s0,hw0,h1⟩:=hr s hs
  refine ⟨s0,hw0,ih (Q':=fun e s1=>match e with|.normal=>∃s',Weak s1 s'/\I s'/\μ s'<μ s|e=>Q' e s1) h1 ?_⟩
  intro e s1 h1
  cases e with
  | normal=>exact h1
  | exit i=>exact hq _ _ h1
  | ret=>exact hq _ _ h1
 | exit id=>intro Q Q' s h hq;exact hq _ _ h
 | ret=>intro Q Q' s h hq;exact hq _ _ h
 | bad=>intro Q Q' s h hq;exact h.elim
inductive HI where
 | c (x:HCode)
 | b (id:Nat)
 | o (C:CallSpec) (all rest:List HOper) (i:Nat)
 | l (I:St->Prop) (μ:St->Nat) (m:Nat)
def hk (P:Program):List HI->(HE->St->Prop)->HE->St->Prop
 | [],Q,e,s=>Q e s
 | .c x::k,Q,e,s=>match e with
  | .normal=>∃s',Weak s s'/\hcode P x (hk P k Q) s'
  | e=>hk P k Q e s
 | .b id::k,Q,e,s=>match e with
  | .exit i=>if i=id then hk P k Q .normal s else hk P k Q (.exit i) s
  | e=>hk P k Q e s
 | .o C all rest i::k,Q,e,s=>match e with
  | .normal=>hops C all rest i (fun s1=>hk P k Q .normal { s1 with nx:=s1.nx+stride*all.length }) s
  | e=>hk P k Q e s
 | .l I μ m::k,Q,e,s=>match e with
  | .normal=>∃s',Weak s s'/\I s'/\μ s'<m
  | e=>hk P k Q e s
def hx (P:Program) (k:List HI) (Q:HE->St->Prop) (s:St):Prop:=hk P k Q .normal s
section
variable {P:Program} {k:List HI} {Q:HE->St->Prop} {s:St} {C:CallSpec}
theorem yJ {x:HCode} {s':St} (hw:Weak s s') (h:hx P (.c x::k) Q s'):hx P (.c x::k) Q s:=by
 obtain ⟨s2,hw2,h2⟩:=h
 exact ⟨s2,hw.trans hw2,h2⟩
theorem dN (h:hx P k Q s):hx P (.c .skip::k) Q s:=⟨s,Weak.refl s,h⟩
theorem dC {a b:HCode} (h:hx P (.c a::.c b::k) Q s):hx P (.c (.seq a b)::k) Q s:=by
 obtain ⟨s',hw,h⟩:=h
 refine ⟨s',hw,pJ h ?_⟩
 intro e s1 h1
 cases e with
 | normal=>exact h1
 | exit i=>exact h1
 | ret=>exact h1
theorem aW {ops:List HOper} (h:hx P (.o (HS P) ops ops 0::k) Q s):hx P (.c (.region none ops)::k) Q s:=⟨s,Weak.refl s,BZ h⟩
theorem dV {id:Nat} {x:HCode} (h:hx P (.c x::.b id::k) Q s):hx P (.c (.block id x)::k) Q s:=by
 obtain ⟨s',hw,h⟩:=h
 refine ⟨s',hw,pJ h ?_⟩
 intro e s1 h1
 cases e with
 | normal=>exact h1
 | exit i=>exact h1
 | ret=>exact h1
theorem tZ {id:Nat} (h:hx P k Q s):hx P (.b id::k) Q s:=h
theorem I7 {c:HX} {x y:HCode} (t:Bool) (hc:ev s.sl c=.bool t) (h1:t=true->hx P (.c x::k) Q s) (h2:t=false->hx P (.c y::k) Q s):hx P (.c (.cond c x y)::k) Q s:=by
 refine ⟨s,Weak.refl s,?_⟩
 simp only [hcode,hc]
 exact ⟨h1,h2⟩
theorem dZ {c:HX} {x y:HCode} (hc:ev s.sl c=.bool true) (h1:hx P (.c x::k) Q s):hx P (.c (.cond c x y)::k) Q s:=I7 true hc (fun _=>h1) (fun h=>by cases h)
theorem eG {c:HX} {x y:HCode} (hc:ev s.sl c=.bool false) (h1:hx P (.c y::k) Q s):hx P (.c (.cond c x y)::k) Q s:=I7 false hc (fun h=>by cases h) (fun _=>h1)
theorem OO {id:Nat} (h:hk P k Q (.exit id) s):hx P (.c (.exit id)::k) Q s:=⟨s,Weak.refl s,h⟩
theorem Qs (h:hk P k Q .ret s):hx P (.c .ret::k) Q s:=⟨s,Weak.refl s,h⟩
theorem O9 {b:HCode} (I:St->Prop) (μ:St->Nat) (s0:St) (hw:Weak s s0) (h0:I s0) (hr:∀s,I s->hx P (.c b::.l I μ (μ s)::k) Q s):hx P (.c (.loop b)::k) Q s:=by
 refine ⟨s,Weak.refl s,I,μ,⟨s0,hw,h0⟩,fun s1 h1=>?_⟩
 obtain ⟨s2,hw2,h2⟩:=hr s1 h1
 refine ⟨s2,hw2,pJ h2 ?_⟩
 intro e s3 h3
 cases e with
 | normal=>exact h3
 | exit i=>exact h3
 | ret=>exact h3
theorem TM {I:St->Prop} {μ:St->Nat} {m:Nat} (s':St) (hw:Weak s s') (h1:I s') (h2:μ s'<m):hx P (.l I μ m::k) Q s:=⟨s',hw,h1,h2⟩
theorem LP {all:List HOper} {i:Nat}:hx P (.o C all [] i::k) Q s=hx P k Q { s with nx:=s.nx+stride*all.length }:=rfl
theorem QR {all r:List HOper} {i:Nat} {d:Option Nat} {op:HOp HX} (hnc:op.isCall=false)
  (h:(ae s.M (s.nx+stride*i) (op.map (ev s.sl))).2.2/\hx P (.o C all r (i+1)::k) Q ((s.upd (ae s.M (s.nx+stride*i) (op.map (ev s.sl))).2.1).put d (ae s.M (s.nx+stride*i) (op.map (ev s.sl))).1)):hx P (.o C all (⟨d,op,none⟩::r) i::k) Q s:=by
 refine Or.inl ?_
 cases op<;>first|exact h|cases hnc
theorem Qz {all r:List HOper} {i:Nat} {d:Option Nat} {op:HOp HX} (h:C.sem s i d op fun s1=>hx P (.o C all r (i+1)::k) Q s1):hx P (.o C all (⟨d,op,none⟩::r) i::k) Q s:=Or.inr h
theorem Ey {all r:List HOper} {i:Nat} {o:HOper} {j:Nat} {want:Bool} (hg:o.guard=some (j,want)) {d:Nat} (hd:(all[j]?).bind (·.dst)=some d) {b:Bool} (hb:au d s.sl=.bool b) (h1:b=want->hx P (.o C all (⟨o.dst,o.op,none⟩::r) i::k) Q s) (h2:b≠want->hx P (.o C all r (i+1)::k) Q (s.put o.dst (.tup []))) :
  hx P (.o C all (o::r) i::k) Q s:=by
 show hops C all (o::r) i _ s
 simp only [hops,hg,hd,iq,hb]
 exact ⟨h1,h2⟩
theorem Kz {all r:List HOper} {i:Nat} {o:HOper} {j:Nat} {want:Bool} (hg:o.guard=some (j,want)) {d:Nat} (hd:(all[j]?).bind (·.dst)=some d) (hb:au d s.sl=.tup []) (h2:hx P (.o C all r (i+1)::k) Q (s.put o.dst (.tup []))) :
  hx P (.o C all (o::r) i::k) Q s:=by
 show hops C all (o::r) i _ s
 simp only [hops,hg,hd,iq,hb]
 exact h2
theorem N7 {all r:List HOper} {i:Nat} {d:Option Nat} {f:FuncId} {xs:List HX} {K:HV->Prop} (hC:HT P f (bI bn s.M (xs.map (ev s.sl))) K)
  (h:∀v,K v->(aI (xs.map (ev s.sl)) || v.noRd)=true/\(unpack (s.nx+stride*i) v).2.2<=s.nx+stride*(i+1)/\hx P (.o (HS P) all r (i+1)::k) Q ((s.upd (unpack (s.nx+stride*i) v).2.1).put d (unpack (s.nx+stride*i) v).1)) :
  hx P (.o (HS P) all (⟨d,.call f xs,none⟩::r) i::k) Q s:=Or.inl (hC.mono h)
theorem Nj {all r:List HOper} {i:Nat} {d:Option Nat} {x:HX} {f:FuncId} {cap:List HV} (hf:ev s.sl x=.fn f cap) {xs:List HX} {K:HV->Prop} (hC:HT P f (bI bn s.M (xs.map (ev s.sl)++cap)) K)
  (h:∀v,K v->(aI (xs.map (ev s.sl)++cap) || v.noRd)=true/\(unpack (s.nx+stride*i) v).2.2<=s.nx+stride*(i+1)/\hx P (.o (HS P) all r (i+1)::k) Q ((s.upd (unpack (s.nx+stride*i) v).2.1).put d (unpack (s.nx+stride*i) v).1)) :
  hx P (.o (HS P) all (⟨d,.callv x xs,none⟩::r) i::k) Q s:=by
 show hop (HS P) s i ⟨d,.callv x xs,none⟩ _
 refine Or.inl ?_
 simp only [hop0,HOp.map,hf]
 exact hC.mono h
theorem iL {ops:List HOper} {masks:List Nat} (h1:kU masks ops=true) (h2:Eh masks ops=true) (D:FuncId->List HV->HV->Prop) (h:hx P (.o (CS P D) ops ops 0::k) Q s):hx P (.c (.region (some masks) ops)::k) Q s:=by
 refine ⟨s,Weak.refl s,h1,fun _=>.inl ⟨DS.of D,?_⟩⟩
 have:=IZ h2 ops 0 [] s rfl rfl (by simp) h
 rw [A8]
 exact this
end
def bf (P:Program) (f:FuncId):Option (HCode×List Nat×Nat) :=
 match P.funcs[f]? with
 | some fn=>match fn.body,tmpsOf fn.results.toList with
  | some c,some rs=>if fn.name == "runtime.NumGoroutine" then none else some (eU P (MQ fn.ntmps) c,rs,fn.ntmps)
  | _,_=>none
 | none=>none
theorem HT.of {P:Program} (hm:P.follows .mixedOrders=true) {f:FuncId} {c:HCode} {rs:List Nat} {T:Nat} (hf:bf P f=some (c,rs,T)) {args:List HV} (hlen:args.length<=T) {K:HV->Prop} (h:hx P [.c c] (finish rs K) ⟨aB 0 args,[],0⟩):HT P f args K:=by
 unfold bf at hf
 cases h1:P.funcs[f]? with
 | none=>simp [h1] at hf
 | some fn =>
  rw [h1] at hf
  simp only at hf
  cases h2:fn.body with
  | none=>simp [h2] at hf
  | some cd =>
   cases h3:tmpsOf fn.results.toList with
   | none=>simp [h2,h3] at hf
   | some rs' =>
    simp only [h2,h3] at hf
    split at hf
    ·cases hf
    ·rename_i hname
     simp only [bY,kD] at hf
     obtain ⟨rfl,rfl,rfl⟩:=hf
     obtain ⟨s',hw,h4⟩:=h
     refine HT.enter hm h1 h2 (by simpa using hname) h3 hlen s' hw ?_
     exact h4
theorem HTI.of {P:Program} (hm:P.follows .mixedOrders=true) {f:FuncId} {c:HCode} {rs:List Nat} {T:Nat} (hf:bf P f=some (c,rs,T)) {args:List HV} (hlen:args.length<=T) (L:Nat) (io:List Nat) (hlow:c.low L=true) (hio:(io.all fun j=>decide (j<L))=true) {K:HV->List HV->Prop} (s0:St) (h0:{ ((⟨aB 0 (aH 0 args).1,[],0⟩:St).upd (aH 0 args).2.1) with nx:=(aH 0 args).2.2 }=s0) (h:hx P [.c c] (finish (rs++io) (KI rs.length io.length K)) s0):HTI P f args io K:=by
 unfold bf at hf
 cases h1:P.funcs[f]? with
 | none=>simp [h1] at hf
 | some fn =>
  rw [h1] at hf
  simp only at hf
  cases h2:fn.body with
  | none=>simp [h2] at hf
  | some cd =>
   cases h3:tmpsOf fn.results.toList with
   | none=>simp [h2,h3] at hf
   | some rs' =>
    simp only [h2,h3] at hf
    split at hf
    ·cases hf
    ·rename_i hname
     simp only [bY,kD] at hf
     obtain ⟨rfl,rfl,rfl⟩:=hf
     obtain ⟨s',hw,h4⟩:=h
     subst h0
     refine HTI.enter hm h1 h2 (by simpa using hname) h3 hlen (L:=L) (by simpa [zl014] using hio) s' hw ?_
     rw [Ai cd hlow]
     exact h4
theorem zY:∀ (vs:List HV) (L:Lk),(ak L vs).1.length=vs.length
 | [],_=>rfl
 | v::vs,L=>by simp only [ak,List.length_cons];rw [zY vs]
theorem NF:∀c:HCode,c.low 0=true:=by
 intro c
 induction c with
 | region inc ops=>simp [HCode.low,Hu,Option.all_eq_true]
 | seq a b ha hb=>simp [HCode.low,ha,hb]
 | cond x a b ha hb=>simp [HCode.low,ha,hb]
 | block i b hb=>simpa [HCode.low] using hb
 | loop b hb=>simpa [HCode.low] using hb
 | _=>rfl
theorem HTM.of {P:Program} (hm:P.follows .mixedOrders=true) {f:FuncId} {c:HCode} {rs:List Nat} {T:Nat} (hf:bf P f=some (c,rs,T)) {args:List HV} (hlen:args.length<=T) {K:HV->Prop} (s0:St) (h0:{ ((⟨aB 0 (aH 0 args).1,[],0⟩:St).upd (aH 0 args).2.1) with nx:=(aH 0 args).2.2 }=s0) (h:hx P [.c c] (finish rs K) s0):HTM P f args K:=by
 refine HTI.of hm hf hlen 0 [] (NF c) rfl s0 h0 ?_
 obtain ⟨s',hw,h4⟩:=h
 refine ⟨s',hw,pJ h4 ?_⟩
 intro e s1 h1
 have key:(ak s1.M (rs.map fun r=>au r s1.sl)).2.2/\K (fJ (ak s1.M (rs.map fun r=>au r s1.sl)).1)->(ak s1.M ((rs++[]).map fun r=>au r s1.sl)).2.2/\KI rs.length ([]:List Nat).length (fun r _=>K r) (fJ (ak s1.M ((rs++[]).map fun r=>au r s1.sl)).1):=by
  rw [List.append_nil]
  rintro ⟨a,b⟩
  have hl:(ak s1.M (rs.map fun r=>au r s1.sl)).1.length=rs.length:=by rw [zY,fK]
  refine ⟨a,_,rfl,hl,fun o ho=>?_,?_⟩
  ·rw [Cj (by omega)] at ho;cases ho
  ·rw [mW (by omega)];exact b
 cases e with
 | normal=>exact key h1
 | ret=>exact key h1
 | exit i=>exact h1
theorem PS {P:Program} {k:List HI} {Q:HE->St->Prop} {x:HCode} {s s':St} (hw:Weak s s') (h:hcode P x (hk P k Q) s'):hx P (.c x::k) Q s:=⟨s',hw,h⟩
def zX (id:Nat):List HI->Option (List HI)
 | []=>none
 | .b i::k=>if i=id then some k else zX id k
 | .c _::k=>zX id k
 | .o ..::k=>zX id k
 | .l ..::k=>zX id k
theorem Oe {P:Program} {id:Nat} {k k':List HI} {Q:HE->St->Prop} {s:St} (hp:zX id k=some k') (h:hx P k' Q s):hk P k Q (.exit id) s:=by
 induction k with
 | nil=>cases hp
 | cons a k ih =>
  cases a with
  | b i =>
   simp only [zX] at hp
   simp only [hk]
   split at hp
   ·rename_i hi;cases hp;rw [if_pos hi.symm];exact h
   ·rename_i hi;rw [if_neg (fun e=>hi e.symm)];exact ih hp
  | c _=>exact ih hp
  | o=>exact ih hp
  | l=>exact ih hp
theorem QH {P:Program} {k:List HI} {Q:HE->St->Prop} {s:St} (h:Q .ret s):hk P k Q .ret s:=by
 induction k with
 | nil=>exact h
 | cons a k ih=>cases a<;>exact ih
theorem gu {P:Program} {id:Nat} {k k':List HI} {Q:HE->St->Prop} {s:St} (hp:zX id k=some k') (h:hx P k' Q s):hx P (.c (.exit id)::k) Q s:=OO (Oe hp h)
theorem OM {P:Program} {k:List HI} {Q:HE->St->Prop} {s:St} (h:Q .ret s):hx P (.c .ret::k) Q s:=Qs (QH h)
theorem Py {P:Program} {k:List HI} {rs:List Nat} {K:HV->Prop} {sl st:List (Nat×HV)} {nx:Nat} {vs:List HV} {us:List dJ} {side:Prop} (h0:ak (fun j=>au j st) (rs.map fun r=>au r sl)=(vs,us,side)) (hs:side) (hK:K (fJ vs)) :
  hx P (.c .ret::k) (finish rs K) ⟨sl,st,nx⟩:=by
 refine OM ?_
 have e:(fun j=>au j st)=St.M ⟨sl,st,nx⟩:=rfl
 rw [e] at h0
 unfold finish
 simp only
 rw [h0]
 exact ⟨hs,hK⟩
attribute [irreducible] hx
mutual
def HV.ids:HV->List Nat
 | .ref i _ _ _ _=>[i]
 | .pref i _ _=>[i]
 | .mref i _=>[i]
 | .agg cs=>OG cs
 | .tup cs=>OG cs
 | .fn _ cs=>OG cs
 | _=>[]
def OG:List HV->List Nat
 | []=>[]
 | v::r=>v.ids++OG r
end
mutual
def HV.ren (h:Nat->Option Nat):HV->HV
 | .ref i p sz o n=>match h i with|some k=>.ref k p sz o n|none=>.dead
 | .pref i p o=>match h i with|some k=>.pref k p o|none=>.dead
 | .mref i p=>match h i with|some k=>.mref k p|none=>.dead
 | .agg cs=>.agg (JK h cs)
 | .tup cs=>.tup (JK h cs)
 | .fn f cs=>.fn f (JK h cs)
 | v=>v
def JK (h:Nat->Option Nat):List HV->List HV
 | []=>[]
 | v::r=>v.ren h::JK h r
end
def uD (acc:List Nat):List Nat->List Nat
 | []=>acc
 | x::r=>if x∈acc then uD acc r else uD (acc++[x]) r
def idx:List Nat->Nat->Option Nat
 | [],_=>none
 | x::r,i=>if x=i then some 0 else (idx r i).map (·+1)
def PK (keep:List Nat):List (Nat×HV)->List (Nat×HV)
 | []=>[]
 | (k,v)::r=>if k∈keep then (k,v)::PK keep r else PK keep r
def uY:List (Nat×HV)->List Nat
 | []=>[]
 | (_,v)::r=>v.ids++uY r
def OI (h:Nat->Option Nat):List (Nat×HV)->List (Nat×HV)
 | []=>[]
 | (k,v)::r=>(k,v.ren h)::OI h r
def oN (ids:List Nat) (sl:List (Nat×HV)) (s:St):St:=⟨OI (idx ids) sl,aB 0 (ids.map fun i=>au i s.st),ids.length⟩
theorem Em (l acc:List Nat) (h:acc.Nodup):(uD acc l).Nodup:=by
 induction l generalizing acc with
 | nil=>exact h
 | cons x r ih =>
  simp only [uD]
  split
  ·exact ih acc h
  ·rename_i hx
   refine ih _ ?_
   rw [zl007]
   exact ⟨h,by simp,fun a ha b hb e=>by simp at hb;subst hb;subst e;exact hx ha⟩
theorem NZ {l:List Nat} {i k:Nat} (h:idx l i=some k):l[k]?=some i:=by
 induction l generalizing k with
 | nil=>simp [idx] at h
 | cons x r ih =>
  simp only [idx] at h
  split at h
  ·rename_i hx;cases h;simp [hx]
  ·simp only [Option.map_eq_some_iff] at h
   obtain ⟨j,hj,rfl⟩:=h
   simpa using ih hj
theorem Kq (h:Nat->Option Nat) (t:Nat) (l:List (Nat×HV)):au t (OI h l)=(au t l).ren h:=by
 induction l with
 | nil=>rfl
 | cons p r ih =>
  obtain ⟨k,v⟩:=p
  simp only [OI,au,ih]
  split<;>rfl
theorem OW.ren {F:Nat->Prop} {h:Hp} {R R':HV->Value->Prop} {vs rvs fs} (g:Nat->Option Nat) (o:OW F h R vs rvs fs) (hfs:fs=[]) (hl:∀v rv,R v rv->(∃id,dH v=some id)) (hr:∀v rv id k,R v rv->dH v=some id->g id=some k->R' (v.ren g) rv):OW F h R' (JK g vs) rvs []:=by
 induction o with
 | nil=>exact .nil
 | @leaf R v rv r rr fs a b c d e f gg _ ih =>
  have ih':=ih hfs hl hr
  obtain ⟨id,hid⟩:=hl _ _ gg
  cases hg:g id with
  | none =>
   have:v.ren g=.dead:=by cases v<;>simp [dH] at hid<;>subst hid<;>simp [HV.ren,hg]
   simp only [JK,this]
   exact .dead ih'
  | some k =>
   have h1:=hr _ _ id k gg hid hg
   have:(dH (v.ren g)).isSome=true:=by cases v<;>simp [dH] at hid<;>subst hid<;>simp [HV.ren,hg,dH]
   exact (cZ this h1).cons1 ih'
 | int _ ih=>exact .int (ih hfs hl hr)
 | bool _ ih=>exact .bool (ih hfs hl hr)
 | str _ ih=>exact .str (ih hfs hl hr)
 | nils _ ih=>exact .nils (ih hfs hl hr)
 | nilp _ ih=>exact .nilp (ih hfs hl hr)
 | nilf _ ih=>exact .nilf (ih hfs hl hr)
 | dead _ ih=>exact .dead (ih hfs hl hr)
 | sl0 _ ih=>exact .sl0 (ih hfs hl hr)
 | sl a b c d e _ _ ih=>exact .sl a b c d e (ih hfs hl hr)
 | osl0 _ ih=>exact .osl0 (ih hfs hl hr)
 | osl=>simp at hfs
 | ptr a b c d _ _ ih=>exact .ptr a b c d (ih hfs hl hr)
 | optr=>simp at hfs
 | nilm _ ih=>exact .nilm (ih hfs hl hr)
 | rmap a b c d _ _ ih=>exact .rmap a b c d (ih hfs hl hr)
 | omap=>simp at hfs
 | oitr=>simp at hfs
 | agg _ _ ih1 ih2 =>
  obtain ⟨rfl,rfl⟩:_=[]/\_=[]:=by simpa using hfs
  exact .agg (ih1 rfl hl hr) (ih2 rfl hl hr)
 | tup _ _ ih1 ih2 =>
  obtain ⟨rfl,rfl⟩:_=[]/\_=[]:=by simpa using hfs
  exact .tup (ih1 rfl hl hr) (ih2 rfl hl hr)
 | fn _ _ ih1 ih2 =>
  obtain ⟨rfl,rfl⟩:_=[]/\_=[]:=by simpa using hfs
  exact .fn (ih1 rfl hl hr) (ih2 rfl hl hr)
theorem Weak.normW (sl':List (Nat×HV)) (s:St) (hsl:∀t,au t sl'=au t s.sl\/au t sl'=.dead):Weak s (oN (uD [] (uY sl')) sl' s):=by
 intro E a w ⟨loc,fp,hr⟩
 have hnd:=Em (uY sl') [] (by simp)
 generalize uD [] (uY sl')=ids at hnd ⊢
 let loc':Nat->Value:=fun k=>match ids[k]? with|some i=>loc i|none=>undef
 let fp':Nat->List Nat:=fun k=>match ids[k]? with|some i=>fp i|none=>[]
 have hM:∀k,(oN ids sl' s).M k=match ids[k]? with|some i=>s.M i|none=>.dead:=by
  intro k
  show au k (aB 0 _)=_
  rw [lg]
  simp only [gX,if_true,Nat.sub_zero,List.getD,iT]
  cases ids[k]?<;>rfl
 have hsub:∀k b,b∈fp' k->∃i,ids[k]?=some i/\b∈fp i:=fun k b hb=>by
  simp only [fp'] at hb
  cases h:ids[k]? with
  | none=>simp [h] at hb
  | some i=>simp only [h] at hb;exact ⟨i,rfl,hb⟩
 have hfz:∀b,dX E fp w b->dX E fp' w b:=fun b ⟨h1,h2,h3⟩=>⟨h1,h2,fun k hb=>by obtain ⟨i,_,h⟩:=hsub k b hb;exact h3 i h⟩
 have hF:∀b,dX E fp w b->dX E fp' w b/\w.heap[b]?=w.heap[b]?:=fun b hb=>⟨hfz b hb,rfl⟩
 refine ⟨loc',fp',⟨hr.below,hr.base,hr.size,?_,?_,?_,?_,?_,?_,?_,hr.defers⟩⟩
 ·intro k hk
  rw [hM] at hk ⊢
  simp only [loc',fp']
  cases h:ids[k]? with
  | none=>simp [h] at hk
  | some i =>
   simp only [h] at hk ⊢
   exact (hr.tree i hk).stable (fun _ _=>rfl) hF (fun _ _ h=>h)
 ·intro k hk
  rw [hM] at hk
  simp only [fp']
  cases h:ids[k]? with
  | none=>rfl
  | some i=>simp only [h] at hk ⊢;exact hr.gone i hk
 ·intro k hk
  rw [hM]
  have:ids[k]?=none:=jb hk
  rw [this]
 ·intro k
  simp only [fp']
  cases h:ids[k]? with
  | none=>simp
  | some i=>simp only;exact hr.nodup i
 ·intro j k hjk b hb hb'
  obtain ⟨i1,h1,h2⟩:=hsub j b hb
  obtain ⟨i2,h3,h4⟩:=hsub k b hb'
  have:i1≠i2:=fun e=>by
   subst e
   exact hjk (by
    have l1:=(zl030.1 h1).1
    exact (List.getElem?_inj l1 hnd).1 (h1.trans h3.symm))
  exact hr.apart i1 i2 this b h2 h4
 ·intro k b hb
  obtain ⟨i,_,h⟩:=hsub k b hb
  exact hr.fresh i b h
 ·intro t
  have hS:(oN ids sl' s).S t=(au t sl').ren (idx ids):=Kq _ _ _
  rw [hS]
  rcases hsl t with h|h<;>rw [h]
  ·have:=(hr.slots t).ren (R':=RefR ids.length (oN ids sl' s).M loc' w.heap) (idx ids) rfl (fun v rv h=>by obtain ⟨id,h1,_⟩:=h.isRef;exact ⟨id,h1⟩) (by
    intro v rv id k hv hid hk
    have hget:=NZ hk
    have hlt:=(zl030.1 hget).1
    have e1:(oN ids sl' s).M k=s.M id:=by rw [hM,hget]
    have e2:loc' k=loc id:=by simp only [loc',hget]
    cases v<;>simp only [dH,bY,reduceCtorEq] at hid
    ·subst hid
     obtain ⟨a1,a2,a3,a4,a5⟩:=hv
     simp only [HV.ren,hk]
     exact ⟨hlt,a2,a3,by rw [e1];exact a4,by rw [e1,e2];exact a5⟩
    ·subst hid
     obtain ⟨a1,a2,a3,a4⟩:=hv
     simp only [HV.ren,hk]
     exact ⟨hlt,a2,a3,by rw [e1,e2];exact a4⟩
    ·subst hid
     obtain ⟨a1,a2,a3,a4,a5⟩:=hv
     simp only [HV.ren,hk]
     exact ⟨hlt,a2,a3,by rw [e1];exact a4,by rw [e1,e2];exact a5⟩)
   exact this.stable (by simp) hF (fun _ _ h=>h)
  ·exact .dead .nil
def F7 (keep:List Nat) (sl:List (Nat×HV)):List (Nat×HV):=keep.map fun k=>(k,au k sl)
def norm2 (keep:List Nat) (s:St):St:=oN (uD [] (uY (F7 keep s.sl))) (F7 keep s.sl) s
theorem Hw (keep:List Nat) (t:Nat) (l:List (Nat×HV)):au t (F7 keep l)=au t l\/au t (F7 keep l)=.dead:=by
 induction keep with
 | nil=>exact .inr rfl
 | cons k r ih =>
  simp only [F7,iy,au]
  split
  ·rename_i h;subst h;exact .inl rfl
  ·exact ih
theorem Weak.norm2 (keep:List Nat) (s:St):Weak s (norm2 keep s):=Weak.normW _ s fun t=>Hw keep t s.sl
def freeze (id:Nat) (s:St):St:=⟨s.sl.map fun p=>(p.1,p.2.thaw (fun i=>i==id) s.M),xm id .dead s.st,s.nx⟩
theorem AO (T:Nat->Bool) (L:Lk) (t:Nat) (l:List (Nat×HV)):au t (l.map fun p=>(p.1,p.2.thaw T L))=(au t l).thaw T L:=by
 induction l with
 | nil=>rfl
 | cons p r ih =>
  obtain ⟨k,v⟩:=p
  simp only [iy,au,ih]
  split<;>rfl
theorem Weak.freeze (id:Nat) (s:St):Weak s (freeze id s):=by
 intro E a w ⟨loc,fp,hr⟩
 have hM:∀k,(HL.freeze id s).M k=if id=k then .dead else s.M k:=fun k=>oQ id k .dead s.st
 let fp':Nat->List Nat:=fun k=>if k=id then [] else fp k
 have hfz:∀b,dX E fp w b->dX E fp' w b:=fun b ⟨h1,h2,h3⟩=>⟨h1,h2,fun k=>by simp only [fp'];split;simp;exact h3 k⟩
 have hF:∀b,dX E fp w b->dX E fp' w b/\w.heap[b]?=w.heap[b]?:=fun b hb=>⟨hfz b hb,rfl⟩
 have hid:∀b∈fp id,dX E fp' w b:=fun b hb=>⟨hr.lt id b hb,fun h=>by rcases hr.fresh id b hb with h1|h1;omega;exact .inr h1,fun k=>by
  simp only [fp']
  split
  ·simp
  ·rename_i hk;exact hr.apart id k (Ne.symm hk) b hb⟩
 refine ⟨loc,fp',⟨hr.below,hr.base,hr.size,?_,?_,?_,?_,?_,?_,?_,hr.defers⟩⟩
 ·intro k hk
  rw [hM] at hk ⊢
  by_cases h:id=k
  ·rw [if_pos h] at hk;exact absurd rfl hk
  ·rw [if_neg h] at hk ⊢
   simp only [fp',if_neg (Ne.symm h)]
   exact (hr.tree k hk).stable (fun _ _=>rfl) hF (fun _ _ h=>h)
 ·intro k hk
  rw [hM] at hk
  by_cases h:id=k
  ·simp [fp',h]
  ·rw [if_neg h] at hk
   simp only [fp',if_neg (Ne.symm h)]
   exact hr.gone k hk
 ·intro k hk
  rw [hM]
  split
  ·rfl
  ·exact hr.new k hk
 ·intro k;simp only [fp'];split;simp;exact hr.nodup k
 ·intro j k hjk b hb hb'
  simp only [fp'] at hb hb'
  split at hb
  ·simp at hb
  ·split at hb'
   ·simp at hb'
   ·exact hr.apart j k hjk b hb hb'
 ·intro k b hb
  simp only [fp'] at hb
  split at hb
  ·simp at hb
  ·exact hr.fresh k b hb
 ·intro t
  have hS:(HL.freeze id s).S t=(s.S t).thaw (fun i=>i==id) s.M:=AO _ _ _ _
  rw [hS]
  exact OW.thaw hr (fun i=>i==id) hfz (fun i hi b hb=>by simp at hi;subst hi;exact hid b hb) (fun v rv i hv hi hT=>by
   simp at hT
   refine hv.kind hi (aP _) fun p _ _=>.inr ⟨by rw [hM,if_neg (fun e=>hT e.symm)],rfl⟩) (hr.slots t) rfl rfl
mutual
def HV.unb (id:Nat):HV->HV
 | .ref i p sz o n=>if i=id then (match p with|[0]=>.ref i [] sz o n|_=>.dead) else .ref i p sz o n
 | .pref i p o=>if i=id then .dead else .pref i p o
 | .mref i p=>if i=id then .dead else .mref i p
 | .agg cs=>.agg (Fb id cs)
 | .tup cs=>.tup (Fb id cs)
 | .fn f cap=>.fn f (Fb id cap)
 | v=>v
def Fb (id:Nat):List HV->List HV
 | []=>[]
 | v::r=>v.unb id::Fb id r
end
theorem OW.unb {F:Nat->Prop} {h:Hp} {R:HV->Value->Prop} {vs rvs fs} (id:Nat) (o:OW F h R vs rvs fs):∀ {R':HV->Value->Prop},(∀i p sz o n rv,R (.ref i p sz o n) rv->(i≠id->R' (.ref i p sz o n) rv)/\(i=id->p=[0]->R' (.ref i [] sz o n) rv)) ->
  ((∀i p o rv,R (.pref i p o) rv->i≠id->R' (.pref i p o) rv)/\(∀i p rv,R (.mref i p) rv->i≠id->R' (.mref i p) rv))->OW F h R' (Fb id vs) rvs fs:=by
 induction o with
 | nil=>intro R' _ _;exact .nil
 | @leaf R v rv r rr fs a b c d e f g _ ih =>
  intro R' h1 h2
  have ih:=ih h1 h2
  cases v<;>simp [fH] at a b c d e f
  ·rename_i i p sz o n
   simp only [Fb,HV.unb]
   split
   ·rename_i hi
    split
    ·exact .leaf rfl (by simp) (by simp) (by simp) (by simp) (by simp) ((h1 _ _ _ _ _ _ g).2 hi rfl) ih
    ·exact .dead ih
   ·rename_i hi
    exact .leaf rfl (by simp) (by simp) (by simp) (by simp) (by simp) ((h1 _ _ _ _ _ _ g).1 hi) ih
  ·rename_i i p o
   simp only [Fb,HV.unb]
   split
   ·exact .dead ih
   ·rename_i hi
    exact .leaf rfl (by simp) (by simp) (by simp) (by simp) (by simp) (h2.1 _ _ _ _ g hi) ih
  ·exact .dead ih
  ·rename_i i p
   simp only [Fb,HV.unb]
   split
   ·exact .dead ih
   ·rename_i hi
    exact .leaf rfl (by simp) (by simp) (by simp) (by simp) (by simp) (h2.2 _ _ _ g hi) ih
  ·exact absurd rfl (c _ _ _ _ rfl rfl rfl)
 | int _ ih=>intro R' h1 h2;exact .int (ih h1 h2)
 | bool _ ih=>intro R' h1 h2;exact .bool (ih h1 h2)
 | str _ ih=>intro R' h1 h2;exact .str (ih h1 h2)
 | nils _ ih=>intro R' h1 h2;exact .nils (ih h1 h2)
 | nilp _ ih=>intro R' h1 h2;exact .nilp (ih h1 h2)
 | nilf _ ih=>intro R' h1 h2;exact .nilf (ih h1 h2)
 | dead _ ih=>intro R' h1 h2;exact .dead (ih h1 h2)
 | sl0 _ ih=>intro R' h1 h2;exact .sl0 (ih h1 h2)
 | sl a b c d e _ _ ih=>intro R' h1 h2;exact .sl a b c d e (ih h1 h2)
 | osl0 _ ih=>intro R' h1 h2;exact .osl0 (ih h1 h2)
 | osl a b c d e f g _ _ ih=>intro R' h1 h2;exact .osl a b c d e f g (ih h1 h2)
 | ptr a b c d _ _ ih=>intro R' h1 h2;exact .ptr a b c d (ih h1 h2)
 | optr a b _ _ ih=>intro R' h1 h2;exact .optr a b (ih h1 h2)
 | nilm _ ih=>intro R' h1 h2;exact .nilm (ih h1 h2)
 | rmap a b c d _ _ ih=>intro R' h1 h2;exact .rmap a b c d (ih h1 h2)
 | omap a b c _ _ ih=>intro R' h1 h2;exact .omap a b c (ih h1 h2)
 | oitr a _ ih=>intro R' h1 h2;exact .oitr a (ih h1 h2)
 | agg _ _ ih1 ih2=>intro R' h1 h2;exact .agg (ih1 h1 h2) (ih2 h1 h2)
 | tup _ _ ih1 ih2=>intro R' h1 h2;exact .tup (ih1 h1 h2) (ih2 h1 h2)
 | fn _ _ ih1 ih2=>intro R' h1 h2;exact .fn (ih1 h1 h2) (ih2 h1 h2)
theorem Dv (id t:Nat) (l:List (Nat×HV)):au t (l.map fun p=>(p.1,p.2.unb id))=(au t l).unb id:=by
 induction l with
 | nil=>rfl
 | cons p r ih =>
  obtain ⟨k,v⟩:=p
  simp only [iy,au,ih]
  split<;>rfl
def unbox (id:Nat) (s:St):St:=match s.M id with
 | .optr [.osl sz n cs]=>⟨s.sl.map fun p=>(p.1,p.2.unb id),xm id (.osl sz n cs) s.st,s.nx⟩
 | _=>s
theorem Weak.unbox (id:Nat) (s:St):Weak s (unbox id s):=by
 unfold HL.unbox
 split
 ·rename_i sz n cs hid
  intro E a w ⟨loc,fp,hr⟩
  have hM:∀k,(⟨s.sl.map fun p=>(p.1,p.2.unb id),xm id (.osl sz n cs) s.st,s.nx⟩:St).M k=if id=k then .osl sz n cs else s.M k:=fun k=>oQ id k _ s.st
  have htr:=hr.tree id (by rw [hid];simp)
  rw [hid] at htr
  obtain ⟨g,cur,e,f1,rv1,hloc,hfp,hg,hcur,how⟩:∃g cur e f1 rv1,loc id=.pointer (some ⟨g,0,none⟩)/\fp id=g::f1/\w.heap[g]?=some (.cells cur e (0,0))/\cur.toList=[rv1]/\OW (dX E fp w) w.heap dA [.osl sz n cs] [rv1] f1:=by
   generalize hl:loc id=lv at htr
   generalize hf:fp id=fs at htr
   cases htr with
   | leaf _ _ h3=>exact absurd rfl (h3.1 _)
   | @optr _ _ g cur e f1 _ _ _ h1 h2 h3 =>
    cases h3
    have hlen:=h2.length
    cases hc:cur.toList with
    | nil=>rw [hc] at hlen;simp at hlen
    | cons x r =>
     rw [hc] at hlen h2
     obtain rfl:r=[]:=fG (by simpa using hlen.symm)
     exact ⟨g,cur,e,f1,x,rfl,by simp,h1,hc,h2⟩
  let fp':Nat->List Nat:=fun k=>if k=id then f1 else fp k
  let loc':Nat->Value:=fun k=>if k=id then rv1 else loc k
  have hsub:∀k b,b∈fp' k->b∈fp k:=fun k b hb=>by
   simp only [fp'] at hb
   split at hb
   ·rename_i hk;rw [hk,hfp];simp [hb]
   ·exact hb
  have hfz:∀b,dX E fp w b->dX E fp' w b:=fun b ⟨h1,h2,h3⟩=>⟨h1,h2,fun k hk=>h3 k (hsub k b hk)⟩
  have hF:∀b,dX E fp w b->dX E fp' w b/\w.heap[b]?=w.heap[b]?:=fun b hb=>⟨hfz b hb,rfl⟩
  have hnd:=hr.nodup id
  rw [hfp] at hnd
  refine ⟨loc',fp',⟨hr.below,hr.base,hr.size,?_,?_,?_,?_,?_,?_,?_,hr.defers⟩⟩
  ·intro k hk
   rw [hM] at hk ⊢
   by_cases h:id=k
   ·subst h
    simp only [fp',loc',if_true]
    exact how.stable (fun _ _=>rfl) hF (fun _ _ h=>h)
   ·rw [if_neg h] at hk ⊢
    simp only [fp',loc',if_neg (Ne.symm h)]
    exact (hr.tree k hk).stable (fun _ _=>rfl) hF (fun _ _ h=>h)
  ·intro k hk
   rw [hM] at hk
   by_cases h:id=k
   ·rw [if_pos h] at hk;cases hk
   ·rw [if_neg h] at hk
    simp only [fp',if_neg (Ne.symm h)]
    exact hr.gone k hk
  ·intro k hk
   rw [hM]
   split
   ·rename_i h;subst h;have:=hr.new id hk;rw [hid] at this;cases this
   ·exact hr.new k hk
  ·intro k;simp only [fp'];split
   ·exact (zl027.1 hnd).2
   ·exact hr.nodup k
  ·intro j k hjk b hb hb'
   exact hr.apart j k hjk b (hsub j b hb) (hsub k b hb')
  ·intro k b hb
   exact hr.fresh k b (hsub k b hb)
  ·intro t
   have hS:(⟨s.sl.map fun p=>(p.1,p.2.unb id),xm id (.osl sz n cs) s.st,s.nx⟩:St).S t=(s.S t).unb id:=Dv _ _ _
   rw [hS]
   have h1:=(hr.slots t).unb id (R':=RefR s.nx (⟨s.sl.map fun p=>(p.1,p.2.unb id),xm id (.osl sz n cs) s.st,s.nx⟩:St).M loc' w.heap) (fun i p sz2 o m rv hR=>by
    simp only [RefR] at hR ⊢
    refine ⟨fun hi=>?_,fun hi hp=>?_⟩
    ·simp only [hM,if_neg (Ne.symm hi),loc',if_neg hi];exact hR
    ·subst hi hp
     obtain ⟨r1,r2,r3,r4,r5⟩:=hR
     rw [hM,if_pos rfl]
     refine ⟨r1,by simp,r3,by simp [ah],fun sz' m' cs' h=>?_⟩
     have h':ah (s.M i) [0]=.osl sz' m' cs':=by rw [hid];simpa [ah] using h
     obtain ⟨a1,a2,cap,a3,a4⟩:=r5 _ _ _ h'
     refine ⟨a1,a2,cap,?_,a4⟩
     rw [hloc] at a3
     simp only [bW,je,kC hg,Nat.zero_add] at a3
     rw [<- kz,hcur] at a3
     simp only [loc',if_true,bW]
     simpa using a3) ⟨fun i p o rv hR hi=>by
    simp only [RefR] at hR ⊢
    simp only [hM,if_neg (Ne.symm hi),loc',if_neg hi];exact hR,fun i p rv hR hi=>by
    simp only [RefR] at hR ⊢
    simp only [hM,if_neg (Ne.symm hi),loc',if_neg hi];exact hR⟩
   exact h1.stable (fun _ _=>rfl) hF (fun _ _ h=>h)
 ·exact Weak.refl s
def detach (t:Nat) (s:St):St :=
 match s.S t with
 | .ref id [j] sz 0 k=>match s.M id with
  | .optr cs=>match cs.getD j .dead with
   | .osl sz' m ds=>if sz'=sz/\k<=m/\aZ ds=true/\0<sz then
     ⟨(t,.ref s.nx [] sz 0 k)::s.sl.map fun p=>(p.1,p.2.kill id 0),(s.nx,.osl sz k (ds.take (k*sz)))::(id,.optr (cs.set j .dead))::s.st,s.nx+1⟩ else s
   | _=>s
  | _=>s
 | _=>s
theorem Weak.detach (t:Nat) (s:St):Weak s (detach t s):=by
 unfold HL.detach
 split
 rotate_left
 ·exact Weak.refl s
 rename_i id j sz k hst
 split
 rotate_left
 ·exact Weak.refl s
 rename_i cs hid
 split
 rotate_left
 ·exact Weak.refl s
 rename_i sz' m ds hch
 split
 rotate_left
 ·exact Weak.refl s
 rename_i hcond
 obtain ⟨rfl,hkm,hfl,hsz⟩:=hcond
 intro E a w ⟨loc,fp,hr⟩
 have hidN:id<s.nx:=by
  rcases dL id s.nx with h|h
  ·exact h
  ·have:=hr.new id h;rw [hid] at this;cases this
 have hn:ah (s.M id) [j]=.osl sz' m ds:=by rw [hid];simpa [ah] using hch
 obtain ⟨rv',f1,f',f2,e1,e2,o2,e4,_,rep⟩:=(hr.tree id (by rw [hid];simp)).focus (p:=[j]) (by simp) (by rw [hn];trivial)
 rw [hn] at o2
 have hsl:=hr.slots t
 rw [hst] at hsl
 have hR:=kS hsl
 simp only [RefR] at hR
 obtain ⟨r1,r2,r3,r4,r5⟩:=hR
 obtain ⟨_,a2,cap,a3,a4⟩:=r5 _ _ _ hn
 have hrv:rv'=.slice a2 m cap:=by rw [e1] at a3;exact Option.some.inj a3
 generalize hrt:a.tmps.getD t undef=rt at a4 hsl r3
 obtain ⟨fn,hfn,hnew⟩:∃fn:List Nat,(∀b∈fn,b∈f')/\fn.Nodup/\OW (dX E fp w) w.heap dA [.osl sz' k (ds.take (k*sz'))] [rt] fn:=by
  rw [hrv] at o2
  rcases a4 with ⟨rfl,a',h⟩|⟨g,o,c,h1,h2,h3,h4,h5⟩
  ·refine ⟨[],by simp,.nil,?_⟩
   rw [h]
   simpa using OW.osl0 (F:=dX E fp w) (h:=w.heap) (R:=dA) (sz:=sz') (a:=a') .nil
  ·subst h1
   have hc:c=cap:=Nat.eq_of_mul_eq_mul_right hsz (by simpa using h3)
   subst hc
   rw [Nat.add_zero] at h2
   subst h2
   generalize hff:f'=ff at o2
   cases o2 with
   | leaf _ h'=>exact absurd rfl (h' _ _ _)
   | osl0 _ =>
    obtain rfl:k=0:=by omega
    refine ⟨[],by simp,.nil,?_⟩
    simpa using OW.osl0 (F:=dX E fp w) (h:=w.heap) (R:=dA) (sz:=sz') (a:=some ⟨g,o,none⟩) .nil
   | @osl _ _ _ _ _ _ _ cur e rvs ff1 _ _ fs' b1 b2 b3 b4 b5 b6 b7 b8 =>
    cases b8
    refine ⟨[g],by simp,by simp,?_⟩
    have hflat:=b7.flatL hfl
    have hlen:=hflat.length
    have htk:OW (dX E fp w) w.heap dA (ds.take (k*sz')) (rvs.take (k*sz')) []:=by
     have h1:(ds.take (k*sz'))++ds.drop (k*sz')=ds:=yc _ _
     have h2:=hflat
     rw [<- h1] at h2
     obtain ⟨ru,rw',g1,g2,q1,q2,q3,q4,q5⟩:=h2.splitAt
     obtain ⟨rfl,rfl⟩:g1=[]/\g2=[]:=by simpa using q2.symm
     have:rvs.take (k*sz')=ru:=by
      rw [q1,LD (by rw [q3,gB];rw [b2];have:=BL sz' hkm;omega)]
      rw [mW (by rw [q3,gB];omega)]
     rw [this];exact q4
    have:=OW.osl (F:=dX E fp w) (h:=w.heap) (R:=dA) (sz:=sz') (n:=k) (cs:=ds.take (k*sz')) (g:=g) (off:=o) (cap:=c) (cur:=cur) (e:=e) (rvs:=rvs.take (k*sz')) (f1:=[]) (r:=[]) (rr:=[]) (fs:=[]) b1
     (by rw [gB,b2];have:=BL sz' hkm;omega)
     (by
      rw [b3,gB,b2,BM]) b4 h4 b6 htk .nil
    simpa using this
 obtain ⟨hnd',hnew⟩:=hnew
 have hndid:=hr.nodup id
 rw [e2] at hndid
 have hdis:∀b∈f',b ∉ f1++f2:=fun b hb hb2=>by
  rw [zl007] at hndid
  rcases zl001.1 hb2 with h|h
  ·exact (zl007.1 hndid.1).2.2 b h b hb rfl
  ·exact hndid.2.2 b (zl001.2 (.inr hb)) b h rfl
 have hsub:∀b∈f1++f2,b∈fp id:=fun b hb=>by
  rw [e2]
  rcases zl001.1 hb with h|h<;>simp [h]
 have hfp':∀b∈f',b∈fp id:=fun b hb=>by rw [e2];simp [hb]
 obtain ⟨hk1,hk2⟩:=hr.kill id 0
 let st':Lk:=fun i=>if i=s.nx then .osl sz' k (ds.take (k*sz')) else if i=id then .optr (cs.set j .dead) else s.M i
 have main:=hk1.step (fun v=>∀i p,(∃sz o n,v=.ref i p sz o n)\/(∃o,v=.pref i p o)\/v=.mref i p->¬ (i=id/\0<p.length)) (fun t=>hk2 t) (fun i=>i=id\/i=s.nx) (N':=s.nx+1) (st':=st') (loc':=fun i=>if i=s.nx then rt else loc i) (fp':=fun i=>if i=s.nx then fn else if i=id then f1++f2 else fp i) (w':=w) (by omega) (aP _) rfl rfl rfl (fun _ _ _=>rfl) ?_ ?_ ?_ ?_ ?_ ?_ ?_ ?_
 ·refine ⟨fun i=>if i=s.nx then rt else loc i,fun i=>if i=s.nx then fn else if i=id then f1++f2 else fp i,?_⟩
  have hM:(⟨(t,.ref s.nx [] sz' 0 k)::s.sl.map fun p=>(p.1,p.2.kill id 0),(s.nx,.osl sz' k (ds.take (k*sz')))::(id,.optr (cs.set j .dead))::s.st,s.nx+1⟩:St).M=st':=by
   funext i
   show au i (_::_::_)=_
   simp only [au,st']
   by_cases h1:s.nx=i
   ·simp [h1]
   ·have h1':¬ i=s.nx:=fun h=>h1 h.symm
    by_cases h2:id=i
    ·simp [h1,h1',h2]
    ·have h2':¬ i=id:=fun h=>h2 h.symm
     simp only [h1,h1',h2,h2',if_false]
     rfl
  have r:=main.1
  rw [hM]
  refine ⟨r.below,r.base,r.size,r.tree,r.gone,r.new,r.nodup,r.apart,r.fresh,fun t'=>?_,r.defers⟩
  show OW _ _ _ [au t' (_::_)] _ _
  simp only [au]
  by_cases h:t=t'
  ·subst h
   rw [if_pos rfl,hrt]
   refine cZ rfl ?_
   simp only [RefR]
   refine ⟨by omega,by simp,r3,by simp [ah,st'],fun sz2 m2 cs2 h=>?_⟩
   simp only [ah,st',if_true,HV.osl.injEq] at h
   obtain ⟨rfl,rfl,rfl⟩:=h
   refine ⟨rfl,?_⟩
   rcases a4 with ⟨rfl,a',h⟩|⟨g,o,c,h1,h2,h3,h4,h5⟩
   ·exact ⟨a',0,by simp [bW,h],.inl ⟨rfl,a',h⟩⟩
   ·exact ⟨some ⟨g,o,none⟩,c,by simp [bW,h2],.inr ⟨g,o,c,rfl,by simpa using h2,by simp,h4,aP _⟩⟩
  ·rw [if_neg h,lh]
   exact r.slots t'
 ·intro i hi
  rw [not_or] at hi
  exact ⟨by simp only [st',hi.1,hi.2,if_false],by simp only [hi.2,if_false],by simp only [hi.1,hi.2,if_false]⟩
 ·intro hfz i hi _
  by_cases h:i=s.nx
  ·subst h
   simp only [st',if_true]
   exact hnew.stable (fun _ _=>rfl) (fun b hb=>⟨(hfz b hb).1,rfl⟩) (fun _ _ h=>h)
  ·obtain rfl:=hi.resolve_right h
   simp only [st',h,if_false,if_true]
   have:=rep _ w.heap .dead [] (fun _ _=>rfl) hfz (.dead .nil)
   rw [hid] at this
   simpa [cu] using this
 ·intro i hi hd
  by_cases h:i=s.nx
  ·subst h;simp [st'] at hd
  ·obtain rfl:=hi.resolve_right h
   simp [st',h] at hd
 ·intro i hi hge
  rcases hi with h|h<;>omega
 ·intro i hi b hb
  right
  refine ⟨id,.inl rfl,?_⟩
  by_cases h:i=s.nx
  ·subst h
   simp only [if_true] at hb
   exact hfp' b (hfn b hb)
  ·obtain rfl:=hi.resolve_right h
   simp only [h,if_false,if_true] at hb
   exact hsub b hb
 ·intro i hi
  by_cases h:i=s.nx
  ·subst h;simpa using hnd'
  ·obtain rfl:=hi.resolve_right h
   simp only [h,if_false,if_true]
   rw [zl007] at hndid ⊢
   refine ⟨(zl007.1 hndid.1).1,hndid.2.1,fun x hx y hy=>hndid.2.2 x (zl001.2 (.inl hx)) y hy⟩
 ·intro i j' hi hj hij b hb hb2
  by_cases h:i=s.nx
  ·subst h
   obtain rfl:=hj.resolve_right (fun h=>hij h.symm)
   have hne:¬ j'=s.nx:=fun h=>hij h.symm
   simp only [if_true,hne,if_false] at hb hb2
   exact hdis b (hfn b hb) hb2
  ·obtain rfl:=hi.resolve_right h
   obtain rfl:=hj.resolve_left (fun h=>hij h.symm)
   simp only [h,if_false,if_true] at hb hb2
   exact hdis b (hfn b hb2) hb
 ·intro v rv i hv hG hi hx
  obtain ⟨i',h1,h2⟩:=hv.isRef
  rw [hi] at h1;cases h1
  have hne:¬ i=s.nx:=by omega
  obtain rfl:=hx.resolve_right hne
  cases v<;>simp only [dH] at hi<;>cases hi
  ·rename_i pth sz2 o n
   have hp:pth=[]:=by
    cases pth with
    | nil=>rfl
    | cons x xs=>exact absurd ⟨rfl,by simp⟩ (hG i _ (.inl ⟨_,_,_,rfl⟩))
   subst hp
   simp only [RefR] at hv
   exact absurd (by rw [hid];rfl) (hv.2.2.2.1 cs)
  ·rename_i pth o
   have hp:pth=[]:=by
    cases pth with
    | nil=>rfl
    | cons x xs=>exact absurd ⟨rfl,by simp⟩ (hG i _ (.inr (.inl ⟨_,rfl⟩)))
   subst hp
   simp only [RefR] at hv ⊢
   refine ⟨by omega,hv.2.1,hv.2.2.1,fun _=>?_⟩
   obtain ⟨rvn,g,o',b1,b2,b3⟩:=hv.2.2.2 (by rw [hid];trivial)
   refine ⟨rvn,g,o',?_,b2,b3⟩
   simp only [hne,if_false]
   exact b1
  ·rename_i pth
   have hp:pth=[]:=by
    cases pth with
    | nil=>rfl
    | cons x xs=>exact absurd ⟨rfl,by simp⟩ (hG i _ (.inr (.inr rfl)))
   subst hp
   simp only [RefR] at hv
   exact absurd (by rw [hid];rfl) (hv.2.2.2.1 cs)
end Go.HL
end
section
namespace Go.HL
def ints (l:List Int):List HV:=l.map (.int .i64)
def bools (l:List Bool):List HV:=l.map .bool
def I (l:List Int):HV:=.sl l.length (ints l)
def Bl (l:List Bool):HV:=.sl l.length (bools l)
def trip (l:List (Int×Int×Int)):List HV:=l.flatMap fun e=>[.int .i64 e.1,.int .i64 e.2.1,.int .i64 e.2.2]
def T3 (l:List (Int×Int×Int)):HV:=.sl l.length (trip l)
def intOf:HV->Int
 | .int _ n=>n
 | _=>0
section
variable (l l':List Int) (b b':List Bool) (e e':List (Int×Int×Int))
theorem ints_len:(ints l).length=l.length:=by simp [ints]
theorem bools_len:(bools b).length=b.length:=by simp [bools]
theorem ints_app:ints l++ints l'=ints (l++l'):=by simp [ints]
theorem bools_app:bools b++bools b'=bools (b++b'):=by simp [bools]
theorem ints_snoc (x:Int):ints l++[.int .i64 x]=ints (l++[x]):=by simp [ints]
theorem bools_snoc (x:Bool):bools b++[.bool x]=bools (b++[x]):=by simp [bools]
theorem ints_strip:stripL (ints l)=ints l:=by induction l with|nil=>rfl|cons x r ih=>simpa [ints,stripL,HV.strip] using ih
theorem bools_strip:stripL (bools b)=bools b:=by induction b with|nil=>rfl|cons x r ih=>simpa [bools,stripL,HV.strip] using ih
theorem dF:stripL (trip e)=trip e:=by induction e with|nil=>rfl|cons x r ih=>simpa [trip,stripL,HV.strip] using ih
theorem ints_noRd:eu (ints l)=true:=by induction l with|nil=>rfl|cons x r ih=>simpa [ints,eu,HV.noRd] using ih
theorem bools_noRd:eu (bools b)=true:=by induction b with|nil=>rfl|cons x r ih=>simpa [bools,eu,HV.noRd] using ih
theorem JU:eu (trip e)=true:=by induction e with|nil=>rfl|cons x r ih=>simpa [trip,eu,HV.noRd] using ih
theorem A7:aN (ints l)=[]:=by induction l with|nil=>rfl|cons x r ih=>simpa [ints,aN,HV.deep] using ih
theorem Gz:aN (bools b)=[]:=by induction b with|nil=>rfl|cons x r ih=>simpa [bools,aN,HV.deep] using ih
theorem ints_flat:aZ (ints l)=true:=by simp [ints,aZ,fH]
theorem bools_flat:aZ (bools b)=true:=by simp [bools,aZ,fH]
theorem ints_cell:fQ (ints l)=true:=by simp [ints,fQ,cellV]
theorem bools_cell:fQ (bools b)=true:=by simp [bools,fQ,cellV]
theorem kY (cs:List HV) {n:Nat} (h:n=cs.length):win cs 0 n=cs:=by simp [win,h]
theorem ints_get {i:Nat} (h:i<l.length):(ints l).getD i .dead=.int .i64 (l.getD i 0):=by simp [ints,h]
theorem bools_get {i:Nat} (h:i<b.length):(bools b).getD i .dead=.bool (b.getD i false):=by simp [bools,h]
theorem ints_set {i:Nat} (x:Int):(ints l).set i (.int .i64 x)=ints (l.set i x):=by simp [ints]
theorem bools_set {i:Nat} (x:Bool):(bools b).set i (.bool x)=bools (b.set i x):=by simp [bools]
end
section
variable {P:Program} {k:List HI} {Q:HE->St->Prop} {s:St} {C:CallSpec} {all r:List HOper} {i:Nat} {dd:Option Nat} {op:HOp HX}
theorem Q8 {j d:Nat} {want:Bool} (hd:(all[j]?).bind (·.dst)=some d) (hb:au d s.sl=.bool want) (h:hx P (.o C all (⟨dd,op,none⟩::r) i::k) Q s):hx P (.o C all (⟨dd,op,some (j,want)⟩::r) i::k) Q s :=
 Ey rfl hd hb (fun _=>h) fun h=>absurd rfl h
theorem PR {j d:Nat} {want:Bool} (hd:(all[j]?).bind (·.dst)=some d) (hb:au d s.sl=.bool (!want)) (h:hx P (.o C all r (i+1)::k) Q (s.put dd (.tup []))):hx P (.o C all (⟨dd,op,some (j,want)⟩::r) i::k) Q s :=
 Ey rfl hd hb (fun h=>by cases want<;>cases h) fun _=>h
end
def MJ (op:BinOp) (x y:HV):Bool :=
 match x,y with
 | .int k _,.int k' b =>
  match op with
  | .quo=>decide (k=k')&&decide (b≠0)
  | .rem=>decide (k=k')&&decide (b≠0)
  | .shl=>decide (0<=b)|.shr=>decide (0<=b)
  | .and=>decide (k=k')|.or=>decide (k=k')|.xor=>decide (k=k')
  | .add=>decide (k=k')|.sub=>decide (k=k')|.mul=>decide (k=k')|.eql=>decide (k=k')|.neq=>decide (k=k')
  | .lss=>decide (k=k')|.leq=>decide (k=k')|.gtr=>decide (k=k')|.geq=>decide (k=k')
  | _=>false
 | _,_=>false
theorem MX {op:BinOp} {x y:HV} (h:MJ op x y=true):(DC op x y).2:=by
 unfold MJ at h
 split at h
 ·cases op<;>simp_all [DC]
 ·cases h
def mO (L:Lk) (v:HV):Bool :=
 match v with
 | .ref id p _ off n=>match p with
  | []=>(match L id with
   | .osl _ m _=>off==0&&n==m
   | _=>false)
  | _=>false
 | .pref id p off=>match p with
  | []=>(match L id with
   | .optr _=>off==0
   | _=>false)
  | _=>false
 | .mref id p=>match p with
  | []=>(match L id with
   | .omap ..=>true
   | _=>false)
  | _=>false
 | .omap ..=>false
 | .oitr ..=>false
 | .agg _=>false
 | .tup _=>false
 | .osl ..=>false
 | .optr _=>false
 | .fn _ _=>false
 | .dead=>false
 | _=>true
theorem wH {L:Lk} {v:HV} (h:mO L v=true):(takeC L v).2.2:=by
 cases v with
 | ref id p sz off n =>
  cases p with
  | nil =>
   simp only [mO] at h
   simp only [takeC]
   generalize L id=t at h
   cases t<;>simp_all
  | cons _ _=>simp [mO] at h
 | pref id p off =>
  cases p with
  | nil =>
   simp only [mO] at h
   simp only [takeC]
   generalize L id=t at h
   cases t<;>simp_all
  | cons _ _=>simp [mO] at h
 | mref id p =>
  cases p with
  | nil =>
   simp only [mO] at h
   simp only [takeC]
   generalize L id=t at h
   cases t<;>simp_all
  | cons _ _=>simp [mO] at h
 | _=>first|(simp [mO] at h;done)|simp [takeC]
def OD (cs:List HV):Bool:=(bytesOf cs).isSome
theorem IU {cs:List HV} (h:OD cs=true):(strOf cs).2.2:=by
 unfold OD at h
 unfold strOf
 cases hb:bytesOf cs with
 | none=>rw [hb] at h;cases h
 | some l=>trivial
def wM (L:Lk):List HV->Bool
 | []=>true
 | v::r=>mO L v&&wM (L.upd (takeC L v).2.1) r
theorem xe {L:Lk} {l:List HV} (h:wM L l=true):(dO L l).2.2:=by
 induction l generalizing L with
 | nil=>trivial
 | cons v r ih =>
  simp only [wM,aG] at h
  exact ⟨wH h.1,ih h.2⟩
def Jf (zs:List HV):List (Nat×Nat×HV)->Bool
 | []=>true
 | (off,sz,v)::r=>(cellsOf v).length==sz&&decide (off+sz<=zs.length)&&Jf (setFrom zs off (cellsOf v)) r&&mg v
theorem L8 {zs:List HV} {l:List (Nat×Nat×HV)} (h:Jf zs l=true):(lN zs l).2:=by
 induction l generalizing zs with
 | nil=>trivial
 | cons p r ih =>
  obtain ⟨off,sz,v⟩:=p
  simp only [Jf,aG,beq_iff_eq,decide_eq_true_eq] at h
  exact ⟨h.1.1.1,h.1.1.2,ih h.1.2,h.2⟩
def zV (L:Lk) (flat:Bool) (sz:Nat):HV->Bool
 | .nils=>true
 | .sl m cs=>cs.length==m*sz&&fQ cs
 | .ref id p sz' off m=>match ah (L id) p with
  | .osl _ m' cs=>if flat then sz'==sz&&decide (off+m*sz<=cs.length)&&aZ (win cs off (m*sz)) else (match p with|[]=>true|_=>false)&&off==0&&m==m'&&sz'==sz&&fQ cs
  | _=>false
 | _=>false
theorem y9 {L:Lk} {flat:Bool} {sz:Nat} {v:HV} (h:zV L flat sz v=true):(aU L flat sz v).2.2.2:=by
 cases v with
 | nils=>trivial
 | sl m cs=>simpa [zV,aU] using h
 | ref id p sz' off m =>
  simp only [zV] at h
  simp only [aU]
  split at h
  ·rename_i hq
   rw [hq]
   cases flat
   ·simp only [Bool.false_eq_true,if_false,aG,beq_iff_eq] at h ⊢
    refine ⟨?_,h.1.1.1.2,h.1.1.2,h.1.2,h.2⟩
    cases p with
    | nil=>rfl
    | cons _ _=>simp at h
   ·simp only [if_true,aG,beq_iff_eq,decide_eq_true_eq] at h ⊢
    exact ⟨h.1.1,h.1.2,h.2⟩
  ·cases h
 | _=>simp [zV] at h
def jS (L:Lk):HOp HV->Bool
 | .mv _ _=>true
 | .pick c _ _=>match c with|.bool _=>true|_=>false
 | .bin op x y=>MJ op x y
 | .beq _ x y=>match x,y with|.bool _,.bool _=>true|_,_=>false
 | .aeq _ n x y=>match x,y with|.agg cs,.agg cs'=>decide (cs.length=n)&&decide (cs'.length=n)&&gW cs&&gW cs'|_,_=>false
 | .un op x=>match op,x with|.neg,.int _ _=>true|.not,.bool _=>true|_,_=>false
 | .conv _ x=>match x with|.int _ _=>true|_=>false
 | .newv sz x=>wM L (cellsOf x)&&(dO L (cellsOf x)).1.length==sz
 | .newz _=>true
 | .bld zs ps=>Jf zs ps
 | .bsl sz n xs=>wM L (xs.flatMap cellsOf)&&n==xs.length&&(xs.all fun v=>(cellsOf v).length==sz)
 | .load a sz x=>match x with
  | .ptr cs off=>if a then decide (off+sz<=cs.length) else decide (off<cs.length)
  | .pref id p off=>if a then decide (off+sz<=(aJ (ah (L id) p)).length)&&decide (0<sz)&&aZ (win (aJ (ah (L id) p)) off sz) else decide (off<(aJ (ah (L id) p)).length)
  | _=>false
 | .store flat sz x y=>match x with
  | .pref id p off=>wM L (cellsOf y)&&(dO L (cellsOf y)).1.length==sz&&decide (0<sz)&&decide (off+sz<=(aJ (ah ((L.upd (dO L (cellsOf y)).2.1) id) p)).length)&&(!flat || aZ (dO L (cellsOf y)).1)
  | _=>false
 | .nilck x=>match x with|.ptr ..=>true|.pref ..=>true|.fn ..=>true|_=>false
 | .mkfn _ _=>true
 | .mksl _ bytes _ l=>match l with
  | .int .i64 n=>decide (0<=n)&&decide (bytes*n<=281474976710656)&&decide (n<=9223372036854775807)
  | _=>false
 | .slc sz x lo hi=>match (lo.getD (.int .i64 0)) with
  | .int .i64 l=>match x with
   | .sl n _=>match hi.getD (.int .i64 n) with
    | .int .i64 h=>decide (0<=l)&&decide (l<=h)&&decide (h<=n)
    | _=>false
   | .ref _ _ sz' _ n=>match hi.getD (.int .i64 n) with
    | .int .i64 h=>decide (0<=l)&&decide (l<=h)&&decide (h<=n)&&sz'==sz
    | _=>false
   | _=>false
  | _=>false
 | .faddr _ x=>match x with|.ptr ..=>true|.pref ..=>true|_=>false
 | .fld a sz off x=>match x with
  | .agg cs=>if a then decide (off+sz<=cs.length) else decide (off<cs.length)
  | _=>false
 | .iaddr sz x i=>match i with
  | .int _ j=>match x with
   | .sl n _=>decide (0<=j)&&decide (j<n)
   | .ref _ _ sz' _ n=>decide (0<=j)&&decide (j<n)&&sz'==sz
   | _=>false
  | _=>false
 | .ext x i=>match x with|.tup cs=>decide (i<cs.length)|_=>false
 | .len x=>match x with|.nils=>true|.sl ..=>true|.ref ..=>true|_=>false
 | .app flat sz bytes x y=>match x with
  | .nils=>zV L flat sz y&&decide ((aU L flat sz y).1*bytes<=140737488355328)&&decide ((aU L flat sz y).1<=maxLen)
  | .ref id p sz' off n=>match ah ((L.upd (aU L flat sz y).2.2.1) id) p with
   | .osl _ _ cs=>zV L flat sz y&&decide ((n+(aU L flat sz y).1)*bytes<=140737488355328)&&decide (n+(aU L flat sz y).1<=maxLen)&&sz'==sz&&decide (off+n*sz<=cs.length)
   | _=>false
  | _=>false
 | .mm _ x y=>match x,y with|.int k _,.int k' _=>decide (k=k')|_,_=>false
 | .cpy x y=>match x with
  | .ref id p sz' off n=>zV L true 1 y&&sz'==1&&decide (0<min (aU L true 1 y).1 n)&&decide (off+min (aU L true 1 y).1 n<=(aJ (ah (L id) p)).length)&&aZ ((aU L true 1 y).2.1.take (min (aU L true 1 y).1 n))
  | _=>false
 | .slz _ x=>match x with|.nils=>true|.sl ..=>true|.ref ..=>true|_=>false
 | .isn _ x=>match x with|.nils=>true|.sl n _=>decide (0<n)|.ref _ _ _ _ n=>decide (0<n)|_=>false
 | .mnil _ x=>match x with|.nilm=>true|.rmap ..=>true|.mref id p=>(match ah (L id) p with|.omap ..=>true|_=>false)|_=>false
 | .mkmap _=>true
 | .mlook _ kk _ x k=>match x with
  | .nilm=>bG kk k
  | .rmap m _ _=>decide (m.kind=kk)&&bG kk k
  | .mref id p=>(match ah (L id) p with|.omap m _ _=>decide (m.kind=kk)&&bG kk k|_=>false)
  | _=>false
 | .mset kk x k v=>match x with
  | .mref id p=>(match ah ((L.upd (takeC L v).2.1) id) p with|.omap m _ _=>mO L v&&decide (m.kind=kk)&&bG kk k|_=>false)
  | _=>false
 | .mlen x=>match x with|.nilm=>true|.rmap ..=>true|.mref id p=>(match ah (L id) p with|.omap ..=>true|_=>false)|_=>false
 | .mrng _=>false
 | .mnxt _=>false
 | .ment _=>false
 | .tostr x=>match x with
  | .nils=>true
  | .sl n cs=>OD cs&&decide (cs.length=n)
  | .ref id p sz off n=>(match ah (L id) p with|.osl _ _ cs=>OD (win cs off n)&&decide (sz=1)&&decide (off+n<=cs.length)|_=>false)
  | _=>false
 | .call _ _=>false
 | .callv _ _=>false
 | .bi ..=>false
 | .bad=>false
theorem IY {L:Lk} {fr:Nat} {op:HOp HV} (h:jS L op=true):(ae L fr op).2.2:=by
 cases op with
 | mv nz v=>simp only [ae];split<;>trivial
 | pick c a b =>
  simp only [jS] at h
  cases c<;>simp only [Bool.false_eq_true] at h
  simp only [ae];split<;>trivial
 | bin op x y=>exact MX h
 | beq ne x y=>simp only [jS] at h;split at h<;>simp_all [ae]
 | aeq ne n x y=>simp only [jS] at h;split at h<;>simp_all [ae]
 | un op x=>simp only [jS] at h;split at h<;>simp_all [ae]
 | conv k x=>simp only [jS] at h;split at h<;>simp_all [ae]
 | newv sz x =>
  simp only [jS,aG,beq_iff_eq] at h
  exact ⟨xe h.1,h.2⟩
 | newz zs=>trivial
 | bld zs ps=>exact L8 h
 | bsl sz n xs =>
  simp only [jS,aG,beq_iff_eq] at h
  exact ⟨xe h.1.1,h.1.2,h.2⟩
 | load a sz x =>
  simp only [jS] at h
  split at h
  ·cases a<;>simp_all [ae]
  ·cases a<;>simp_all [ae]
  ·cases h
 | store flat sz x y =>
  simp only [jS] at h
  split at h
  ·simp only [aG,beq_iff_eq,decide_eq_true_eq,uy] at h
   obtain ⟨⟨⟨⟨h1,h2⟩,h3⟩,h4⟩,h5⟩:=h
   refine ⟨xe h1,h2,h3,h4,fun hf=>?_⟩
   rcases h5 with h5|h5
   ·simp [hf] at h5
   ·exact h5
  ·cases h
 | nilck x=>simp only [jS] at h;split at h<;>simp_all [ae]
 | mkfn f xs=>trivial
 | mksl sz bytes z l =>
  simp only [jS] at h
  split at h
  ·simp only [aG,decide_eq_true_eq] at h
   exact ⟨h.1.1,h.1.2,h.2⟩
  ·cases h
 | slc sz x lo hi =>
  simp only [jS] at h
  simp only [ae]
  split at h
  ·rename_i hlo
   rw [hlo]
   split at h
   ·split at h
    ·rename_i hhi
     simp only [hhi]
     simp only [aG,decide_eq_true_eq] at h
     exact ⟨h.1.1,h.1.2,h.2⟩
    ·cases h
   ·split at h
    ·rename_i hhi
     simp only [hhi]
     simp only [aG,decide_eq_true_eq,beq_iff_eq] at h
     exact ⟨h.1.1.1,h.1.1.2,h.1.2,h.2⟩
    ·cases h
   ·cases h
  ·cases h
 | faddr d x=>simp only [jS] at h;split at h<;>simp_all [ae]
 | fld a sz off x =>
  simp only [jS] at h
  split at h
  ·cases a<;>simp_all [ae]
  ·cases h
 | iaddr sz x i =>
  simp only [jS] at h
  split at h
  ·split at h
   ·simp_all [ae]
   ·simp only [aG,decide_eq_true_eq,beq_iff_eq] at h
    exact ⟨h.1.1,h.1.2,h.2⟩
   ·cases h
  ·cases h
 | ext x i=>simp only [jS] at h;split at h<;>simp_all [ae]
 | slz sz x=>simp only [jS] at h;cases x<;>simp_all [ae]
 | isn ne x=>simp only [jS] at h;cases x<;>simp_all [ae]
 | len x=>simp only [jS] at h;split at h<;>simp_all [ae]
 | app flat sz bytes x y =>
  simp only [jS] at h
  split at h
  ·simp only [aG,decide_eq_true_eq] at h
   exact ⟨y9 h.1.1,h.1.2,h.2⟩
  ·split at h
   ·rename_i hq
    simp only [aG,decide_eq_true_eq,beq_iff_eq] at h
    simp only [ae,hq]
    exact ⟨y9 h.1.1.1.1,h.1.1.1.2,h.1.1.2,h.1.2,h.2⟩
   ·cases h
  ·cases h
 | mm mx x y=>simp only [jS] at h;split at h<;>simp_all [ae]
 | cpy x y =>
  simp only [jS] at h
  split at h
  ·simp only [aG,decide_eq_true_eq,beq_iff_eq] at h
   exact ⟨y9 h.1.1.1.1,h.1.1.1.2,h.1.1.2,h.1.2,h.2⟩
  ·cases h
 | mnil ne x =>
  cases x<;>simp only [jS] at h<;>(first|(cases h;done)|trivial|skip)
  rename_i id p
  simp only [ae]
  split at h<;>simp_all
 | mkmap kk=>trivial
 | mlook ok kk z x k =>
  cases x<;>simp only [jS] at h<;>(first|(cases h;done)|skip)
  ·exact h
  ·rename_i m ks cs
   simp only [aG,decide_eq_true_eq] at h
   simp only [ae]
   split<;>exact h
  ·rename_i id p
   split at h
   ·rename_i m ks cs hn
    simp only [aG,decide_eq_true_eq] at h
    simp only [ae,hn]
    split<;>exact h
   ·cases h
 | mset kk x k v =>
  cases x<;>simp only [jS] at h<;>(first|(cases h;done)|skip)
  rename_i id p
  split at h
  ·rename_i m ks cs hn
   simp only [aG,decide_eq_true_eq] at h
   simp only [ae,hn]
   exact ⟨wH h.1.1,h.1.2,h.2⟩
  ·cases h
 | mlen x =>
  cases x<;>simp only [jS] at h<;>(first|(cases h;done)|trivial|skip)
  rename_i id p
  simp only [ae]
  split at h<;>simp_all
 | mrng x=>cases h
 | mnxt x=>cases h
 | ment x=>cases h
 | tostr x =>
  cases x<;>simp only [jS] at h<;>(first|(cases h;done)|trivial|skip)
  ·simp only [aG,decide_eq_true_eq] at h
   exact ⟨IU h.1,h.2⟩
  ·rename_i id p sz off n
   split at h
   ·rename_i hn
    simp only [aG,decide_eq_true_eq] at h
    simp only [ae,hn]
    exact ⟨IU h.1.1,h.1.2,h.2⟩
   ·cases h
 | call _ _=>cases h
 | callv _ _=>cases h
 | bi=>cases h
 | bad=>cases h
end Go.HL
end
section
namespace Go.HL
open Go.RowKit
def zC (masks:List Nat) (all:List HOper) (i:Nat) (o:HOper) (us:List dJ) (S:Lk) (log:pU):Bool :=
 log.all fun q=>nN masks q.1 i || nN masks i q.1 || (match all[q.1]? with|some o'=>!LK o' o|none=>true) || ((vZ o S us).all (fun x=>!q.2.2.contains x)&&q.2.1.all (fun x=>!(qg o S).contains x))
theorem yI {masks:List Nat} {all:List HOper} {i:Nat} {o:HOper} {us:List dJ} {v:HV} {S:Lk} {log:pU} (h:zC masks all i o us S log=true):∀q∈log,chk (fun _=>false) masks all i o (v,us) S q:=by
 intro q hq b1 b2 o' ho' hs
 have:=zl014.1 h q hq
 rw [Am] at hs
 rw [b1,b2,ho'] at this
 simp only [hs,Bool.not_true,Bool.or_self,Bool.false_or,aG,zl014,uu,List.contains_eq_mem,decide_eq_false_iff_not] at this
 exact ⟨this.1,this.2⟩
def La (C:o9) (s:St) (i:Nat) (o:HOper) (K:List dJ->HV->Prop):Prop :=
 match o.op.map (ev s.sl) with
 | .call f xs=>C f (bI bn (fun i=>au i s.st) xs) fun r=>(aI xs || r.noRd)=true/\(unpack (s.nx+stride*i) r).2.2<=s.nx+stride*(i+1)/\K (unpack (s.nx+stride*i) r).2.1 (unpack (s.nx+stride*i) r).1
 | .callv (.fn f cap) xs=>C f (bI bn (fun i=>au i s.st) (xs++cap)) fun r=>(aI (xs++cap) || r.noRd)=true/\(unpack (s.nx+stride*i) r).2.2<=s.nx+stride*(i+1)/\K (unpack (s.nx+stride*i) r).2.1 (unpack (s.nx+stride*i) r).1
 | op=>(ae (fun i=>au i s.st) (s.nx+stride*i) op).2.2/\K (ae (fun i=>au i s.st) (s.nx+stride*i) op).2.1 (ae (fun i=>au i s.st) (s.nx+stride*i) op).1
def qh (C:o9) (masks:List Nat) (all:List HOper):List HOper->Nat->pU->(St->Prop)->St->Prop
 | [],_,_,K,s=>K s
 | o::r,i,log,K,s =>
  match o.guard with
  | none=>La C s i o fun us v=>zC masks all i o us s.S log=true/\qh C masks all r (i+1) ((i,vZ o s.S us,qg o s.S)::log) K ((s.upd us).put o.dst v)
  | some (j,want)=>match ((all[j]?).bind (·.dst)).map (fun d=>au d s.sl) with
   | some (.bool b)=>(b=want->La C s i o fun us v=>zC masks all i o us s.S log=true/\qh C masks all r (i+1) ((i,vZ o s.S us,qg o s.S)::log) K ((s.upd us).put o.dst v)) /\
     (b≠want->zC masks all i o [] s.S log=true/\qh C masks all r (i+1) ((i,[],qg o s.S)::log) K (s.put o.dst (.tup [])))
   | some (.tup [])=>zC masks all i o [] s.S log=true/\qh C masks all r (i+1) ((i,[],qg o s.S)::log) K (s.put o.dst (.tup []))
   | _=>False
theorem MG {P:Program} {D:FuncId->List HV->HV->Prop} {ops:List HOper} {masks:List Nat} {nx:Nat} {K:St->Prop}:∀ (rest:List HOper) (i:Nat) (log:pU) (s:St),ops.drop i=rest->s.nx=nx->qh (CS P D).ap masks ops rest i log K s ->
  dr (HT2 P) (DS.of D) ops masks nx (fun S M=>∃s':St,s'.S=S/\s'.M=M/\s'.nx=nx/\K s') (List.range' i rest.length) log s.S s.M:=by
 intro rest
 induction rest with
 | nil=>intro i log s _ hnx h;exact ⟨s,rfl,rfl,hnx,h⟩
 | cons o rest ih =>
  intro i log s hdrop hnx h
  have hoi:ops[i]?=some o:=by
   have:=congrArg (fun l:List HOper=>l[0]?) hdrop
   simpa using this
  have hdrop':ops.drop (i+1)=rest:=by
   have:=congrArg (List.drop 1) hdrop
   simpa [nR,jI] using this
  simp only [List.length_cons,C9]
  have stepS:∀ (us:List dJ) (v:HV),((s.upd us).put o.dst v).S=jY o (v,us) s.S:=fun us v=>by rw [St.put_S,St.upd_S];rfl
  have stepM:∀ (us:List dJ) (v:HV),((s.upd us).put o.dst v).M=sV (v,us) s.M:=fun us v=>by rw [St.put_M,St.upd_M];rfl
  have next:∀ (us:List dJ) (v:HV) ent,qh (CS P D).ap masks ops rest (i+1) (ent::log) K ((s.upd us).put o.dst v)->dr (HT2 P) (DS.of D) ops masks nx (fun S M=>∃s':St,s'.S=S/\s'.M=M/\s'.nx=nx/\K s') (List.range' (i+1) rest.length) (ent::log) (jY o (v,us) s.S) (sV (v,us) s.M):=by
   intro us v ent h'
   have:=ih (i+1) (ent::log) ((s.upd us).put o.dst v) hdrop' (by rw [St.put_nx,St.upd_nx];exact hnx) h'
   rw [stepS,stepM] at this
   exact this
  have hstr:s.nx+stride*(i+1)=nx+stride*i+stride:=by rw [hnx];unfold stride;omega
  have run:gd ops o s.S=some true->(La (CS P D).ap s i o fun us v=>zC masks ops i o us s.S log=true/\qh (CS P D).ap masks ops rest (i+1) ((i,vZ o s.S us,qg o s.S)::log) K ((s.upd us).put o.dst v))->∃o',ops[i]?=some o'/\dU (HT2 P) (DS.of D) ops (nx+stride*i) o' s.S s.M/\(∃e,fZ (DS.of D) ops (nx+stride*i) o' s.S s.M e)/\∀e,fZ (DS.of D) ops (nx+stride*i) o' s.S s.M e->(∀q∈log,chk (fun _=>false) masks ops i o' e s.S q)/\dr (HT2 P) (DS.of D) ops masks nx (fun S M=>∃s':St,s'.S=S/\s'.M=M/\s'.nx=nx/\K s') (List.range' (i+1) rest.length) ((i,vZ o' s.S e.2,qg o' s.S)::log) (jY o' e s.S) (sV e s.M):=by
   intro hg hh
   refine ⟨o,hoi,?_⟩
   unfold dU fZ
   rw [hg]
   simp only
   have hM:(fun i=>au i s.st)=s.M:=rfl
   unfold La at hh
   rw [kV,hM,hstr,hnx] at hh
   have callc:∀ (f:FuncId) (args xs:List HV),(CS P D f args fun r=>(aI xs || r.noRd)=true/\(unpack (nx+stride*i) r).2.2<=nx+stride*i+stride/\zC masks ops i o (unpack (nx+stride*i) r).2.1 s.S log=true/\qh (CS P D).ap masks ops rest (i+1) ((i,vZ o s.S (unpack (nx+stride*i) r).2.1,qg o s.S)::log) K ((s.upd (unpack (nx+stride*i) r).2.1).put o.dst (unpack (nx+stride*i) r).1)) ->
     (HT P f args (D f args)/\∀r,D f args r->r.deep=[]->(aI xs || r.noRd)=true/\(unpack (nx+stride*i) r).2.2<=nx+stride*i+stride)/\(∃e:HV×List dJ,∃r,D f args r/\r.deep=[]/\e=((unpack (nx+stride*i) r).1,(unpack (nx+stride*i) r).2.1)) /\
     ∀e:HV×List dJ,(∃r,D f args r/\r.deep=[]/\e=((unpack (nx+stride*i) r).1,(unpack (nx+stride*i) r).2.1))->(∀q∈log,chk (fun _=>false) masks ops i o e s.S q)/\dr (HT2 P) (DS.of D) ops masks nx (fun S M=>∃s':St,s'.S=S/\s'.M=M/\s'.nx=nx/\K s') (List.range' (i+1) rest.length) ((i,vZ o s.S e.2,qg o s.S)::log) (jY o e s.S) (sV e s.M):=by
    rintro f args xs ⟨c1,⟨r0,c2,c3⟩,c4⟩
    refine ⟨⟨c1,fun r a b=>⟨(c4 r a b).1,(c4 r a b).2.1⟩⟩,⟨_,r0,c2,c3,rfl⟩,?_⟩
    rintro e ⟨r,d1,d2,rfl⟩
    exact ⟨yI (c4 r d1 d2).2.2.1,next _ _ _ (c4 r d1 d2).2.2.2⟩
   split at hh
   ·rename_i f xs heq
    rw [heq]
    simp only [ku,lM]
    simp only [if_neg (show ¬ (DS.of D).own f=true from fun h=>Bool.noConfusion h)]
    exact callc f _ xs hh
   ·rename_i f cap xs heq
    rw [heq]
    exact callc f _ (xs++cap) hh
   ·rename_i op h1 h2
    have e1:ku (HT2 P) (DS.of D) s.M (nx+stride*i) (o.op.map (bT s.S))=(ae s.M (nx+stride*i) (o.op.map (bT s.S))).2.2:=by
     unfold ku;split
     ·rename_i f xs heq;exact absurd heq (h1 f xs)
     ·rename_i f cap xs heq;exact absurd heq (h2 f cap xs)
     ·rfl
    have e2:∀e,lM (DS.of D) s.M (nx+stride*i) e (o.op.map (bT s.S))=(e=((ae s.M (nx+stride*i) (o.op.map (bT s.S))).1,(ae s.M (nx+stride*i) (o.op.map (bT s.S))).2.1)):=fun e=>by
     unfold lM;split
     ·rename_i f xs heq;exact absurd heq (h1 f xs)
     ·rename_i f cap xs heq;exact absurd heq (h2 f cap xs)
     ·rfl
    rw [e1]
    simp only [e2]
    refine ⟨hh.1,⟨_,rfl⟩,?_⟩
    rintro e rfl
    exact ⟨yI hh.2.1,next _ _ _ hh.2.2⟩
  simp only [qh] at h
  cases hg:o.guard with
  | none =>
   rw [hg] at h
   exact run (by unfold gd;rw [hg]) h
  | some jw =>
   obtain ⟨j,want⟩:=jw
   rw [hg] at h
   simp only at h
   cases hd:(ops[j]?).bind (·.dst) with
   | none=>rw [hd] at h;exact h.elim
   | some d =>
    rw [hd] at h
    simp only [iq] at h
    generalize hv:au d s.sl=v at h
    cases v with
    | bool b =>
     simp only at h
     have hv':s.S d=.bool b:=hv
     have hgd:gd ops o s.S=some (b==want):=by unfold gd;rw [hg];simp only [hd,iq,hv']
     by_cases hbw:b=want
     ·exact run (by rw [hgd];simp [hbw]) (h.1 hbw)
     ·refine ⟨o,hoi,?_⟩
      have:(b==want)=false:=by simpa using hbw
      unfold dU fZ
      rw [hgd,this]
      simp only
      refine ⟨trivial,⟨_,rfl⟩,?_⟩
      rintro e rfl
      exact ⟨yI (h.2 hbw).1,next [] (.tup []) _ (h.2 hbw).2⟩
    | tup cs =>
     cases cs with
     | cons _ _=>exact h.elim
     | nil =>
      simp only at h
      have hv':s.S d=.tup []:=hv
      have hgd:gd ops o s.S=some false:=by unfold gd;rw [hg];simp only [hd,iq,hv']
      refine ⟨o,hoi,?_⟩
      unfold dU fZ
      rw [hgd]
      simp only
      refine ⟨trivial,⟨_,rfl⟩,?_⟩
      rintro e rfl
      exact ⟨yI h.1,next [] (.tup []) _ h.2⟩
    | _=>exact h.elim
inductive RK where
 | t (i:Nat)
 | c (a:Nat) (agg:Bool) (sz:Nat)
section
variable {P:Program} {E:Fr} {N:Nat} {sl:List (Nat×HV)} {st:Lk} {loc:Nat->Value} {fp:Nat->List Nat} {a:Act} {w:World}
end
def RK.slot:RK->Nat
 | .t i=>i
 | .c a _ _=>a
abbrev Ro (a:Nat) (b:HOp HX) (c:Option (Nat×Bool)):HOper:=⟨some a,b,c⟩
abbrev Rf (a:Nat) (b:HOp HX):HOper:=Ro a b none
abbrev Qj (a b:Nat) (c:HX):HOper:=Rf a (.mv b c)
abbrev zS (a b c:Nat):HOper:=Qj a b (.t c)
abbrev lJ (a:List HOper):HCode:=.region none a
abbrev Q4 (a:Nat) (b:HOp HX) (c:Nat) (d:Bool):HOper:=Ro a b (some (c,d))
abbrev fE (a:List HOper) (b:HCode):HCode:=.seq (lJ a) b
abbrev iI (a:Nat) (b:HOp HX) (c:List HOper):List HOper:=Rf a b::c
abbrev Uo (a b:Nat):HOper:=zS a 0 b
abbrev Ui (a:Int):HV:=.int .i64 a
abbrev Tv (a:Nat) (b:HX):HOp HX:=.load false a b
abbrev fM (a:Int):HX:=.c (Ui a)
abbrev bK (a:Nat) (b:HOp HX) (c:Nat) (d:HOp HX) (e:List HOper):List HOper:=iI a b (iI c d e)
abbrev yA (a:BinOp) (b:Nat) (c:HX):HOp HX:=.bin a (.t b) c
abbrev bD (a b:Nat) (c:List HOper):List HOper:=Uo a b::c
abbrev Rq (a:Nat) (b:HOp HX) (c:Nat):HOper:=Q4 a b c true
abbrev gm (a:Nat) (b:HOp HX) (c d:Nat) (e:List HOper):List HOper:=iI a b (bD c d e)
abbrev TU (a b:Nat):HOp HX:=Tv a (.t b)
abbrev TW (a b:Nat):HOper:=zS a 1 b
abbrev SY (a b:Nat) (c:HX):HOp HX:=.iaddr a (.t b) c
abbrev Ti (a:Nat) (b:HOp HX) (c:Nat):HOper:=Q4 a b c false
abbrev nJ (a:BinOp) (b:Nat) (c:Int):HOp HX:=yA a b (fM c)
abbrev Q5 (a:Bool):HX:=.c (.bool a)
abbrev Hr (a b c:Nat):HOp HX:=SY a b (.t c)
abbrev dB (a:Nat):HOp HX:=TU 1 a
abbrev vJ (a:Nat) (b:HOp HX) (c d:Nat) (e:List HOper):List HOper:=bK a b c (dB d) e
abbrev fF (a b:Nat) (c:List HOper) (d:HCode):HCode:=fE (bD a b c) d
abbrev Qe (a:Nat) (b c:HCode):HCode:=.cond (.t a) b c
abbrev jC (a b:Nat) (c:List HOper):List HOper:=TW a b::c
abbrev fD (a b:Nat) (c:List HOper) (d:HCode):HCode:=fE (jC a b c) d
abbrev EQ:HX:=Q5 false
abbrev RG (a b:Nat):HOp HX:=.mv a (.t b)
abbrev Um (a b c d e f:Nat) (g:List HOper):List HOper:=vJ a (Hr b c d) e f g
abbrev oL (a:Nat):HOp HX:=.len (.t a)
abbrev ig (a:BinOp) (b c:Nat):HOp HX:=yA a b (.t c)
abbrev SK (a b c d:Nat):HOper:=Rq a (RG b c) d
abbrev Gf (a:Nat) (b:HCode):HCode:=.block a (.loop b)
abbrev RF (a:Nat) (b c:HX):HOp HX:=.pick (.t a) b c
abbrev pX (a:Nat) (b:BinOp) (c:Nat) (d:Int) (e f:Nat) (g:List HOper):List HOper:=gm a (nJ b c d) e f g
abbrev yj (a:Nat) (b:HX):HOper:=Qj a 0 b
abbrev kJ (a:Nat) (b:HOp HX):List HOper:=iI a b []
abbrev mZ (a:Nat) (b:HCode):HCode:=Qe a b .skip
abbrev mX (a:List HOper) (b c:HCode):HCode:=fE a (.seq b c)
abbrev Si (a:Nat) (b:Int):HOper:=yj a (fM b)
abbrev TI (a:Nat) (b:HCode) (c:Nat):HCode:=Qe a b (.exit c)
abbrev Tz (a:Nat) (b c:HCode):HCode:=.seq (.block a b) c
abbrev qE (a b:Nat):HCode:=TI a .skip b
abbrev qC (a b c d:Nat):HOper:=Ti a (RG b c) d
abbrev dI (a b c d e:Nat) (f:List HOper):List HOper:=Um a 1 b c d e f
abbrev vW (a b:Nat):HOp HX:=ig .lss a b
abbrev qB (a b c:Nat) (d:HOp HX) (e:List HOper):List HOper:=bK a (oL b) c d e
abbrev ji (a b c d:Nat) (e:List HOper):List HOper:=jC a b (bD c d e)
abbrev gz (a b:Nat):List HOper:=jC a b []
abbrev uZ (a:Nat) (b:HCode) (c:List HOper):HCode:=Tz a b (lJ c)
abbrev Ar:HX:=Q5 true
abbrev TV (a:Nat) (b:HX):HOp HX:=RF a b EQ
abbrev lD (a:Nat) (b:HOp HX) (c:Nat) (d:List HOper):List HOper:=Rq a b c::d
abbrev jM (a:Nat) (b:HOp HX) (c d:Nat) (e:HOp HX) (f:Nat) (g:List HOper):List HOper:=lD a b c (lD d e f g)
abbrev yZ (a:List HOper):HCode:=fE a .ret
abbrev iP (a b:Nat):List HOper:=bD a b []
abbrev Uh:HX:=.c .nils
abbrev TL (a b:Nat):HOper:=Qj a b Uh
abbrev lu (a:Nat):HOper:=yj a EQ
abbrev jR (a b:Nat):HOp HX:=TV a (.t b)
abbrev TA (a:Nat):HOper:=Si a 0
abbrev Sr (a b:Nat) (c:Int) (d e:Nat) (f:List HOper):List HOper:=pX a .add b c d e f
abbrev vk (a:Nat) (b:List HX):HOp HX:=.bsl 1 a b
abbrev RX (a:Nat) (b:HX) (c:List HX):HOp HX:=.call a (b::c)
abbrev PE (a b:Nat) (c:List HX):HOp HX:=RX a (.t b) c
abbrev LH (a b c:Nat):List HOper:=kJ a (vW b c)
abbrev iR (a b:Nat):HOp HX:=Hr 1 a b
abbrev oZ (a:Nat) (b:HOp HX) (c:Nat) (d:List HOper):List HOper:=Ti a b c::d
abbrev TG (a:Bool) (b c:Nat) (d:HX):HOp HX:=.store a b (.t c) d
abbrev lH (a:Nat) (b:HOp HX) (c d:Nat) (e:HOp HX) (f:Nat) (g:List HOper):List HOper:=oZ a b c (oZ d e f g)
abbrev NJ (a b:Nat) (c:List HOper):List HOper:=iI a (oL b) c
abbrev Ub (a:Nat) (b:HX):HOp HX:=RF a Ar b
abbrev qH (a b:Nat):HOp HX:=.faddr a (.t b)
abbrev qG (a:Nat) (b:List HOper):HCode:=mZ a (yZ b)
abbrev yV (a b:Nat):HOp HX:=Ub a (.t b)
abbrev kF (a:Nat):HOper:=TL a 1
abbrev nO (a b c d:Nat) (e:List HOper) (f:HCode):HCode:=fD a b (bD c d e) f
abbrev Us (a b:Nat) (c:Int) (d e:Nat):List HOper:=Sr a b c d e []
abbrev kG (a:Nat) (b:HOp HX) (c d:Nat):List HOper:=gm a b c d []
abbrev TB (a:Nat) (b:List HOper) (c d:HCode):HCode:=Gf a (mX b c d)
abbrev oW (a b:Nat) (c:List HOper) (d e:HCode):HCode:=.seq (fF a b c d) e
abbrev lK (a:List HX):HOp HX:=vk 1 a
abbrev uB:HX:=fM (-1)
abbrev Uj (a:Nat) (b:List HOper) (c d:Nat) (e:HCode):HCode:=TB a b (qE c d) e
abbrev Ue (a:HOp HX) (b:Option (Nat×Bool)):HOper:=⟨none,a,b⟩
abbrev LU (a:HOp HX):HOper:=Ue a none
abbrev Pj (a:Bool) (b c:Nat) (d:HX):HOper:=LU (TG a b c d)
abbrev kH (a b c:Nat):HOper:=SK a 1 b c
abbrev yz (a b c d:Nat):List HOper:=Us a b 1 c d
abbrev pg (a:Nat) (b:HCode) (c d e f:Nat):HCode:=uZ a b (yz c d e f)
abbrev Na (a b:Nat) (c:HX) (d:List HX):HOp HX:=PE a b (c::d)
abbrev AL (a b c:Nat) (d:List HX):HOp HX:=Na a b (.t c) d
abbrev jr (a b c:Nat):HOp HX:=AL a b c []
abbrev lX (a:BinOp) (b:Nat):HOp HX:=nJ a b 0
abbrev TC (a:Int):HV:=.int .u64 a
abbrev PL (a:Bool) (b c d:Nat):HOper:=Pj a b c (.t d)
abbrev PO (a:Nat) (b:List HOper):List HOper:=TA a::b
abbrev vF (a:Nat):List HOper:=PO a []
abbrev lq (a b c:Nat):List HOper:=NJ a b (vF c)
abbrev Ls (a:Nat) (b:HCode):HCode:=fE (vF a) b
abbrev SG (a:HX):HOp HX:=.un .not a
abbrev nD (a:Nat):HOp HX:=SG (.t a)
abbrev jZ (a b c d e f:Nat) (g:HCode):HCode:=Uj a (LH b c d) e f g
abbrev lW (a b:Nat):HOp HX:=.ext (.t a) b
abbrev ja (a b c:Nat):HOper:=SK a 0 b c
abbrev nX (a:Int):HX:=.c (TC a)
abbrev kP (a b c d e:Nat) (f:HOp HX) (g:List HOper):List HOper:=jC a b (qB c d e f g)
abbrev jV (a:Bool) (b c:Nat):HOper:=PL a 1 b c
abbrev jE (a b c:Nat):HOper:=qC a 0 b c
abbrev rf (a b:Nat) (c:HCode):HCode:=Ls a (Gf b c)
abbrev ql (a b c:Nat):List HOper:=kJ a (yV b c)
end Go.HL
end
