import Derived.Test.YtlbdmpjnmfmnfaaHl3
import Derived.Deep.LoopGhost
import Derived.Scope
set_option linter.unusedSimpArgs false
set_option linter.unusedVariables false
section
namespace Go.HL
open Go.RowKit
def Weak (s s':St):Prop:=∀E a w,SRel E s.nx s a w->SRel E s'.nx s' a w
theorem Weak.refl (s:St):Weak s s:=fun _ _ _ h=>h
theorem Weak.trans {s s' s'':St} (h1:Weak s s') (h2:Weak s' s''):Weak s s'':=fun E a w h=>h2 E a w (h1 E a w h)
def vU (s:St) (op:HOp HX):Option (FuncId×List HV) :=
 match op.map (ev s.sl) with
 | .call f xs=>some (f,xs)
 | .callv (.fn f cap) xs=>some (f,xs++cap)
 | _=>none
def Rk (P:Program) (s:St) (o:HOper) (K:St->Prop):Prop :=
 o.guard=none/\∃f vs io ids,vU s o.op=some (f,vs)/\(aB s.M vs).2.2/\(io.map (fun j=>vs[j]?)=ids.map fun id=>some (HV.pref id [] 0))/\ids.Nodup/\HTI P f (aB s.M vs).1 io fun v outs=>outs.length=ids.length ->
  K { ((s.upd ((aB s.M vs).2.1++kills ids++nJ ids outs++(unpack s.nx v).2.1)).put o.dst (unpack s.nx v).1) with nx:=(unpack s.nx v).2.2 }
theorem F6 {P:Program} {s:St} {o:HOper} {K K':St->Prop} (h:Rk P s o K) (hk:∀s,K s->K' s):Rk P s o K':=by
 obtain ⟨h0,f,vs,io,ids,h1,h2,h3,h4,h5⟩:=h
 exact ⟨h0,f,vs,io,ids,h1,h2,h3,h4,h5.mono fun v outs hv hl=>hk _ (hv hl)⟩
def wV (P:Program):Nat->List HOper->(St->Prop)->St->Prop
 | 0,ops,K,s=>hops (HS P) ops ops 0 (fun s1=>K { s1 with nx:=s1.nx+stride*ops.length }) s
 | m+1,ops,K,s=>hops (HS P) ops ops 0 (fun s1=>K { s1 with nx:=s1.nx+stride*ops.length }) s \/
  (∃n,0<n/\n<=ops.length/\(ops.all fun o=>o.guard.isNone)=true/\hops (HS P) (ops.take n) (ops.take n) 0 (fun s1=>∃s2,Weak { s1 with nx:=s1.nx+stride*n } s2/\wV P m (ops.drop n) K s2) s) \/
  ∃o r,ops=o::r/\(r.all fun o=>o.guard.isNone)=true/\Rk P s o fun s1=>∃s2,Weak s1 s2/\wV P m r K s2
def QP (masks:List Nat) (ops:List HOper) (n:Nat):Bool :=
 decide (n<=ops.length)&&(List.range ops.length).all (fun i=>decide (i<n) || (List.range i).all fun k=>rq masks k i)&&ops.all (fun o=>o.guard.isNone)
def J5 (Q:Exit->Act->World->Prop):Exit->Act->World->Prop
 | .panic _,_,_=>False
 | e,a,w=>Q e a w
def Cm (masks:List Nat) (ops:List HOper) (m n:Nat):Bool :=
 decide (n<=ops.length)&&(List.range ops.length).all (fun i=>decide (i<n) || (List.range i).all fun k=>decide (k<m) || rq masks k i)&&ops.all (fun o=>o.guard.isNone)
def Sz (P:Program) (masks:List Nat) (ops:List HOper) (K:St->Prop) (s:St):Prop :=
 lQ masks ops=true/\(Inv s.nx (fun _=>False) s.S s.M->(∃D,dr (HT2 P) D ops masks s.nx (fun S M=>∃s':St,s'.S=S/\s'.M=M/\s'.nx=s.nx/\K { s' with nx:=s'.nx+stride*ops.length }) (List.range ops.length) [] s.S s.M) \/
  (∃n D,QP masks ops n=true/\dr (HT2 P) D (ops.take n) masks s.nx (fun S M=>∃s' s2:St,s'.S=S/\s'.M=M/\s'.nx=s.nx/\Weak { s' with nx:=s'.nx+stride*n } s2/\wV P (ops.drop n).length (ops.drop n) K s2) (List.range n) [] s.S s.M) \/
  ∃m n D,Nk masks ops m=true/\m<=n/\Cm masks ops m n=true/\dr (HT2 P) D (ops.take n) masks s.nx (fun S M=>∃s' s2:St,s'.S=S/\s'.M=M/\s'.nx=s.nx/\Weak { s' with nx:=s'.nx+stride*n } s2/\wV P (ops.drop n).length (ops.drop n) K s2) (List.range' m (n - m)) [] (St.S ⟨TK ops (List.range m) s.sl,s.st,s.nx⟩) s.M)
def hcode (P:Program):HCode->(HE->St->Prop)->St->Prop
 | .skip,Q,s=>Q .normal s
 | .region none ops,Q,s=>wV P ops.length ops (Q .normal) s
 | .region (some inc) ops,Q,s=>Sz P inc ops (Q .normal) s
 | .seq a b,Q,s=>hcode P a (fun e s1=>match e with|.normal=>∃s',Weak s1 s'/\hcode P b Q s'|e=>Q e s1) s
 | .cond c a b,Q,s=>match ev s.sl c with
  | .bool t=>(t=true->∃s',Weak s s'/\hcode P a Q s')/\(t=false->∃s',Weak s s'/\hcode P b Q s')
  | _=>False
 | .block id b,Q,s=>hcode P b (fun e s1=>match e with|.exit i=>if i=id then Q .normal s1 else Q (.exit i) s1|e=>Q e s1) s
 | .loop b,Q,s=>∃ (I:St->Prop) (μ:St->Nat),(∃s',Weak s s'/\I s')/\∀s,I s->∃s0,Weak s s0/\hcode P b (fun e s1=>match e with|.normal=>∃s',Weak s1 s'/\I s'/\μ s'<μ s|e=>Q e s1) s0
 | .exit id,Q,s=>Q (.exit id) s
 | .ret,Q,s=>Q .ret s
 | .bad,_,_=>False
def SL (T:Nat):Nat->Bool:=fun t=>decide (t<T)
def gm (P:Program) (T:Nat->Bool):Code->HCode
 | .skip=>.skip
 | .region _ ops draw=>.region (if draw then some (dD ops) else none) (ops.toList.map (aJ P T))
 | .seq a b=>.seq (gm P T a) (gm P T b)
 | .cond c a b=>.cond (dO c) (gm P T a) (gm P T b)
 | .block id b=>.block id (gm P T b)
 | .loop b=>.loop (gm P T b)
 | .exit id=>.exit id
 | .ret=>.ret
 | .scope b=>gm P T b
 | .label _=>.skip
 | _=>.bad
section
variable {P:Program} {E:Fr} {N:Nat} {a:Act} {w:World}
theorem SRel.bool {s:St} {d:Nat} {b:Bool} (h:SRel E N s a w) (hb:au d s.sl=.bool b):a.tmps[d]?=some (.bool b):=by
 obtain ⟨loc,fp,h⟩:=h
 have h1:=h.slots d
 have h2:s.S d=.bool b:=hb
 rw [h2] at h1
 have h3:=of_bool h1
 cases h4:a.tmps[d]? with
 | none=>rw [jC,h4] at h3;simp [undef] at h3
 | some v=>rw [jC,h4] at h3;simpa using h3
theorem PS {ops:Array Oper} {K:St->Prop} {Q:Exit->Act->World->Prop}:∀ (rest:List Oper) (i:Nat) (s:St) (a:Act) (w:World),ops.toList.drop i=rest->SRel E (s.nx+stride*i) s a w ->
  hops (HS P) (ops.toList.map (aJ P E.ok)) (rest.map (aJ P E.ok)) i K s->(∀s' a' w',s'.nx=s.nx->SRel E (s.nx+stride*(i+rest.length)) s' a' w'->K s'->Q .normal a' w')->wpOps P ops Q (List.range' i rest.length) a w:=by
 intro rest
 induction rest with
 | nil=>intro i s a w _ hr h hK;exact hK s a w rfl hr h
 | cons o rest ih =>
  intro i s a w hdrop hr h hK
  have hoi:ops[i]?=some o:=by
   have:=congrArg (fun l:List Oper=>l[0]?) hdrop
   simpa using this
  have hdrop':ops.toList.drop (i+1)=rest:=by
   have:=congrArg (List.drop 1) hdrop
   simpa [sV,lK] using this
  simp only [List.length_cons,GR,wpOps,hoi]
  have next:∀s' a' w',s'.nx=s.nx->SRel E (s.nx+stride*(i+1)) s' a' w'->hops (HS P) (ops.toList.map (aJ P E.ok)) (rest.map (aJ P E.ok)) (i+1) K s'->wpOps P ops Q (List.range' (i+1) rest.length) a' w':=by
   intro s' a' w' hnx hr' h'
   refine ih (i+1) s' a' w' hdrop' (by rw [hnx];exact hr') h' ?_
   intro s2 a2 w2 h2 hr2 hK2
   rw [hnx] at hr2
   exact hK s2 a2 w2 (h2.trans hnx) (by rw [List.length_cons,show i+(rest.length+1)=i+1+rest.length by omega];exact hr2) hK2
  simp only [dP,hops] at h
  have hgd:(aJ P E.ok o).guard=o.guard:=rfl
  rw [hgd] at h
  cases hg:o.guard with
  | none =>
   rw [hg] at h
   simp only at h
   have hw:Region.wanted o (yielded ops a.tmps)=true:=by simp [Region.wanted,hg]
   rw [if_pos hw]
   exact .inl (xE hr h next)
  | some jw =>
   obtain ⟨j,want⟩:=jw
   rw [hg] at h
   simp only [fZ,Option.bind_map] at h
   have hall:((ops.toList[j]?).bind ((fun x=>x.dst) ∘ aJ P E.ok))=((ops[j]?).bind (·.dst)):=by rw [oZ];rfl
   rw [hall] at h
   cases hd:(ops[j]?).bind (·.dst) with
   | none=>rw [hd] at h;simp at h
   | some d =>
    rw [hd] at h
    simp only [gV] at h
    generalize hv:au d s.sl=v at h
    have skip:hops (HS P) (ops.toList.map (aJ P E.ok)) (rest.map (aJ P E.ok)) (i+1) K (s.put o.dst (.tup []))->wpOps P ops Q (List.range' (i+1) rest.length) (a.put o.dst undef) w:=fun h2=>by
     have hstr:s.nx+stride*i<=s.nx+stride*(i+1):=by unfold stride;omega
     refine next (s.put o.dst (.tup [])) (a.put o.dst undef) w (St.put_nx _ _ _) ?_ h2
     obtain ⟨loc,fp,hr0⟩:=hr
     refine ⟨loc,fp,?_⟩
     rw [St.put_S,St.put_M]
     exact (hr0.putU o.dst).up hstr
    cases v with
    | bool b =>
     simp only at h
     have hy:yielded ops a.tmps j=some b:=by
      unfold yielded
      rw [hd]
      simp only [IW,SRel.bool hr hv]
     by_cases hbw:b=want
     ·have hw:Region.wanted o (yielded ops a.tmps)=true:=by simp [Region.wanted,hg,hy,hbw]
      rw [if_pos hw]
      exact .inl (xE hr (h.1 hbw) next)
     ·rw [if_neg (by simp [Region.wanted,hg,hy,hbw])]
      exact skip (h.2 hbw)
    | tup cs =>
     cases cs with
     | cons _ _=>exact h.elim
     | nil =>
      simp only at h
      have hy:yielded ops a.tmps j=none:=by
       obtain ⟨loc,fp,hr0⟩:=hr
       have h1:=hr0.slots d
       have h2:s.S d=.tup []:=hv
       rw [h2] at h1
       have h3:=Np h1
       unfold yielded
       rw [hd]
       simp only [IW]
       cases h4:a.tmps[d]? with
       | none=>rfl
       | some v=>rw [jC,h4] at h3;simp at h3;rw [h3];rfl
      rw [if_neg (by simp [Region.wanted,hg,hy])]
      exact skip h
    | _=>exact h.elim
theorem QN {D:DS} {all:List HOper} {masks:List Nat} {nx n:Nat} {K:Lk->Lk->Prop} (hg:∀o∈all,o.guard=none):∀ {l:List Nat} {log:l7} {S M:Lk},(∀i∈l,i<n)->(∀q∈log,q.1<n)->dr (HT2 P) D (all.take n) masks nx K l log S M->dr (HT2 P) D all masks nx K l log S M:=by
 intro l
 induction l with
 | nil=>intro log S M _ _ h;exact h
 | cons i l ih =>
  intro log S M hl hlog h
  obtain ⟨o,ho,hs,he,h⟩:=h
  have hin:=hl i (by simp)
  have ho':all[i]?=some o:=by rw [Rt hin] at ho;exact ho
  have hgo:=hg o (Oy ho')
  have e1:∀ (fr:Nat) (S M:Lk),eH (HT2 P) D (all.take n) fr o S M=eH (HT2 P) D all fr o S M:=fun fr S M=>by unfold eH gd;rw [hgo]
  have e2:∀ (fr:Nat) (S M:Lk) e,iG D (all.take n) fr o S M e=iG D all fr o S M e:=fun fr S M e=>by unfold iG gd;rw [hgo]
  refine ⟨o,ho',e1 _ _ _▸hs,?_,fun e hre=>?_⟩
  ·obtain ⟨e,he⟩:=he;exact ⟨e,e2 _ _ _ _▸he⟩
  ·obtain ⟨h1,h2⟩:=h e ((e2 _ _ _ _).symm▸hre)
   refine ⟨fun q hq hb1 hb2 o' ho2 hsu=>h1 q hq hb1 hb2 o' (by rw [Rt (hlog q hq)];exact ho2) hsu,ih (fun k hk=>hl k (by simp [hk])) (fun q hq=>?_) h2⟩
   rcases zl011.1 hq with rfl|hq
   ·exact hin
   ·exact hlog q hq
theorem zo {s:St} {o:Oper} {K:St->Prop} {next:Act->World->Prop} {Q:Exit->Act->World->Prop} (hr:SRel E s.nx s a w) (h:Rk P s (aJ P E.ok o) K)
  (hn:∀s' a' w',K s'->SRel E s'.nx s' a' w'->next a' w'):o.wp P a w next Q:=by
 obtain ⟨loc,fp,hr⟩:=hr
 obtain ⟨hg,f,vs,io,ids,hc,hside,hio,hids,hC⟩:=h
 unfold aJ at hc hC
 by_cases hd:(o.dst.all fun d=>E.ok d)=true
 ·have hdt:∀t,o.dst=some t->E.ok t=true:=fun t ht=>by simpa [ht] using hd
  simp only [hd,if_true] at hc hC
  have callgen:∀ (rvs:List Value),(execOp a.eval o).run P w=(callFunc f rvs.toArray).run P w->OW (frz E fp w) w.heap (RefR s.nx s.M loc w.heap) vs rvs []->o.wp P a w next Q:=by
   intro rvs hrun hv
   unfold Oper.wp
   rw [hrun,rO hC.1,Oper.upon_enter]
   refine (EU hr (aY _) hv hside hio hids hC).mono ?_
   rintro e w' ⟨rv,res,outs,rfl,hK,hl,_,hA⟩
   exact hn _ _ _ (hK hl) (SRel.done hA hdt)
  unfold vU at hc
  cases hop':aN P o with
  | call f' xs =>
   rw [hop'] at hc
   simp only [HOp.map,bT,jg] at hc
   obtain ⟨rfl,rfl⟩:=hc
   obtain ⟨c,hcc,hcal,rfl⟩:=Ec hop'
   refine callgen (c.args.toList.map a.eval) ?_ (by rw [kZ,jd];exact hr.vals _)
   have e1:(#[]:Array Value)++c.args.map a.eval++#[]=(c.args.toList.map a.eval).toArray:=by apply CZ;simp
   have e2:a.eval (.func f')=.func (.func f') #[] #[]:=rfl
   simp only [execOp,hcc,resolve,hcal,e2,Deferred.ofValue,Sem.run_bind,Sem.run_pure,Result.andThen_ok,invoke,e1]
  | callv x xs =>
   rw [hop'] at hc
   simp only [HOp.map] at hc
   obtain ⟨c,t,hcc,hcal,rfl,rfl⟩:=BF hop'
   have hval:=hr.val (.tmp t)
   simp only [dO] at hval
   have e0:ev s.sl (.t t)=bU s.S (.t t):=by rw [jd]
   rw [e0] at hc
   generalize bU s.S (.t t)=fv at *
   cases fv<;>simp only [reduceCtorEq] at hc
   rename_i f' cap
   simp only [bT,jg] at hc
   obtain ⟨rfl,rfl⟩:=hc
   obtain ⟨rcap,hfe,hcap⟩:=I8 hval
   have hv:=(hr.vals c.args.toList).append hcap
   simp only [List.append_nil] at hv
   refine callgen (c.args.toList.map a.eval++rcap) ?_ (by rw [kZ,jd];exact hv)
   have e1:(#[]:Array Value)++c.args.map a.eval++rcap.toArray=(c.args.toList.map a.eval++rcap).toArray:=by apply CZ;simp
   simp only [execOp,hcc,resolve,hcal,hfe,Deferred.ofValue,Sem.run_bind,Sem.run_pure,Result.andThen_ok,invoke,e1]
  | _ =>
   rw [hop'] at hc
   simp [HOp.map] at hc
 ·simp only [hd] at hc
  simp [vU,HOp.map] at hc
theorem ZU {ops:Array Oper} {n:Nat} {Q:Exit->Act->World->Prop} (hlt:∀i o e,ops[i]?=some o->e∈o.after->Region.binds .any e=true->e.on<i)
  (hlast:∀i,n<=i->i<ops.size->∀k,n<=k->k<i->rq (dD ops) k i=true) (p:Nat) (hp:n<=p) (o:Oper) (hoi:ops[p]?=some o) (hgo:o.guard=none) (fuel:Nat) (listed:Array Bool) (a:Act) (w:World) (hfu:ops.size - p<=fuel) (hsz:listed.size=ops.size)
  (hl:∀k,k<p->listed.getD k false=true) (hu:∀k,p<=k->k<ops.size->listed.getD k true=false)
  (hK:∀fuel' (listed':Array Bool),ops.size - (p+1)<=fuel'->listed'.size=ops.size->(∀k,k<p+1->listed'.getD k false=true)->(∀k,p+1<=k->k<ops.size->listed'.getD k true=false)->o.wp P a w (wpAny P .any ops Q fuel' listed') Q):wpAny P .any ops Q fuel listed a w:=by
 have hps:p<ops.size:=(zl030.1 hoi).1
 cases fuel with
 | zero=>omega
 | succ fuel =>
  refine ⟨fun h0=>?_,fun i hi'=>?_⟩
  ·exfalso
   have:p∈Region.ready .any ops listed:=mem_ready.2 ⟨hu _ (aY _) hps,o,hoi,fun e he hb=>hl _ (hlt _ o e hoi he hb)⟩
   rw [h0] at this;cases this
  ·obtain ⟨hun,o',ho',haft⟩:=mem_ready.1 hi'
   have hio:i<ops.size:=(zl030.1 ho').1
   have unl:∀k,p<=k->k<ops.size->listed.getD k false=false:=fun k h1 h2=>by
    have h3:=hu k h1 h2
    have hk':k<listed.size:=by omega
    simp only [jC,lL hk',fV] at h3 ⊢
    exact h3
   have hij:i=p:=by
    rcases Nat.lt_trichotomy i p with h|h|h
    ·exfalso
     have h2:=hl i h
     have hi2:i<listed.size:=by omega
     simp only [jC,lL hi2,fV] at hun h2
     rw [hun] at h2;cases h2
    ·exact h
    ·exfalso
     have down:∀m,m<i->rq (dD ops) p m=true->listed.getD m false=true->False:=by
      intro m
      induction m using Nat.strongRecOn with
      | _ m ihm =>
       intro hmi hb hlm
       rcases dX m p with hm|hm
       ·have hms:m<ops.size:=by omega
        obtain ⟨e,he,hbb,h3⟩:=kY (lL hms) hb
        have hel:=hlt m _ e (lL hms) he hbb
        rcases h3 with h3|h3
        ·omega
        ·exact ihm e.on hel (by omega) h3 (hl _ (by omega))
       ·rw [unl m hm (by omega)] at hlm;cases hlm
     obtain ⟨e,he,hbb,h3⟩:=kY ho' (hlast i (by omega) hio p hp h)
     have hle:=haft e he hbb
     have hel:=hlt i o' e ho' he hbb
     rcases h3 with h3|h3
     ·rw [h3,unl _ (aY _) (by omega)] at hle;cases hle
     ·exact down e.on hel h3 hle
   subst hij
   rw [hoi] at ho';cases ho'
   have hw:Region.wanted o (yielded ops a.tmps)=true:=by simp [Region.wanted,hgo]
   unfold wpOp
   rw [hoi]
   simp only
   rw [if_pos hw]
   refine .inl (hK fuel (listed.setIfInBounds i true) (by omega) (by simpa using hsz) (fun k hk=>?_) (fun k hk1 hk2=>?_))
   ·by_cases e:k=i
    ·subst e;have:k<listed.size:=by omega
     simp [this]
    ·rw [getD_set_ne false (fun h=>e h.symm)];exact hl k (by omega)
   ·rw [getD_set_ne true (by omega)];exact hu k (by omega) hk2
theorem QX {ops:Array Oper} {n:Nat} {K:St->Prop} {Q:Exit->Act->World->Prop} {all:List HOper} (hlt:∀i o e,ops[i]?=some o->e∈o.after->Region.binds .any e=true->e.on<i)
  (hlast:∀i,n<=i->i<ops.size->∀k,n<=k->k<i->rq (dD ops) k i=true) (p:Nat) (hp:n<=p):∀ (l:List Oper) (j fuel:Nat) (listed:Array Bool) (s:St) (a:Act) (w:World),(∀o∈l,o.guard=none)->(∀i,i<l.length->ops[p+j+i]?=l[i]?)->p+j+l.length<=ops.size->ops.size - (p+j)<=fuel->listed.size=ops.size ->
   (∀k,k<p+j->listed.getD k false=true)->(∀k,p+j<=k->k<ops.size->listed.getD k true=false)->SRel E (s.nx+stride*j) s a w ->
   hops (HS P) all (l.map (aJ P E.ok)) j K s ->
   (∀fuel' (listed':Array Bool) s' a' w',s'.nx=s.nx->ops.size - (p+j+l.length)<=fuel'->listed'.size=ops.size->(∀k,k<p+j+l.length->listed'.getD k false=true)->(∀k,p+j+l.length<=k->k<ops.size->listed'.getD k true=false)->SRel E (s.nx+stride*(j+l.length)) s' a' w'->K s'->wpAny P .any ops Q fuel' listed' a' w')->wpAny P .any ops Q fuel listed a w:=by
 intro l
 induction l with
 | nil=>intro j fuel listed s a w _ _ _ hfu hsz hl hu hr h hK;exact hK fuel listed s a w rfl hfu hsz hl hu hr h
 | cons o rest ih =>
  intro j fuel listed s a w hg hi hlen hfu hsz hl hu hr h hK
  simp only [List.length_cons] at hlen
  have hoi:ops[p+j]?=some o:=by have:=hi 0 (by simp);simpa using this
  have hgo:o.guard=none:=hg o (by simp)
  cases fuel with
  | zero=>omega
  | succ fuel =>
   refine ⟨fun h0=>?_,fun i hi'=>?_⟩
   ·exfalso
    have:p+j∈Region.ready .any ops listed:=mem_ready.2 ⟨hu _ (aY _) (by omega),o,hoi,fun e he hb=>hl _ (hlt _ o e hoi he hb)⟩
    rw [h0] at this;cases this
   ·obtain ⟨hun,o',ho',haft⟩:=mem_ready.1 hi'
    have hio:i<ops.size:=(zl030.1 ho').1
    have unl:∀k,p+j<=k->k<ops.size->listed.getD k false=false:=fun k h1 h2=>by
     have h3:=hu k h1 h2
     have hk':k<listed.size:=by omega
     simp only [jC,lL hk',fV] at h3 ⊢
     exact h3
    have hij:i=p+j:=by
     rcases Nat.lt_trichotomy i (p+j) with h|h|h
     ·exfalso
      have h2:=hl i h
      have hi2:i<listed.size:=by omega
      simp only [jC,lL hi2,fV] at hun h2
      rw [hun] at h2;cases h2
     ·exact h
     ·exfalso
      have down:∀m,m<i->rq (dD ops) (p+j) m=true->listed.getD m false=true->False:=by
       intro m
       induction m using Nat.strongRecOn with
       | _ m ihm =>
        intro hmi hb hlm
        rcases dX m (p+j) with hm|hm
        ·have hms:m<ops.size:=by omega
         obtain ⟨e,he,hbb,h3⟩:=kY (lL hms) hb
         have hel:=hlt m _ e (lL hms) he hbb
         rcases h3 with h3|h3
         ·omega
         ·exact ihm e.on hel (by omega) h3 (hl _ (by omega))
        ·rw [unl m hm (by omega)] at hlm;cases hlm
      obtain ⟨e,he,hbb,h3⟩:=kY ho' (hlast i (by omega) hio (p+j) (by omega) h)
      have hle:=haft e he hbb
      have hel:=hlt i o' e ho' he hbb
      rcases h3 with h3|h3
      ·rw [h3,unl _ (aY _) (by omega)] at hle;cases hle
      ·exact down e.on hel h3 hle
    subst hij
    rw [hoi] at ho';cases ho'
    simp only [dP,hops] at h
    have hgd:(aJ P E.ok o).guard=o.guard:=rfl
    rw [hgd,hgo] at h
    simp only at h
    have hw:Region.wanted o (yielded ops a.tmps)=true:=by simp [Region.wanted,hgo]
    unfold wpOp
    rw [hoi]
    simp only
    rw [if_pos hw]
    refine .inl (xE hr h ?_)
    intro s' a' w' hnx hr' h'
    refine ih (j+1) fuel (listed.setIfInBounds (p+j) true) s' a' w' (fun o ho=>hg o (by simp [ho])) (fun i hi2=>?_) (by omega) (by omega) (by simpa using hsz) (fun k hk=>?_) (fun k hk1 hk2=>?_) (by rw [hnx];exact hr') h' ?_
    ·have:=hi (i+1) (by simp;omega)
     rw [show p+(j+1)+i=p+j+(i+1) by omega]
     simpa using this
    ·by_cases e:k=p+j
     ·subst e;have:p+j<listed.size:=by omega
      simp [this]
     ·rw [getD_set_ne false (fun h=>e h.symm)];exact hl k (by omega)
    ·rw [getD_set_ne true (by omega)];exact hu k (by omega) hk2
    ·intro f2 l2 s2 a2 w2 h2 hf2 hs2 hl2 hu2 hr2 hK2
     rw [hnx] at hr2
     exact hK f2 l2 s2 a2 w2 (h2.trans hnx) (by rw [List.length_cons];omega) hs2 (fun k hk=>hl2 k (by rw [List.length_cons] at hk;omega)) (fun k hk1 hk2=>hu2 k (by rw [List.length_cons] at hk1;omega) hk2) (by rw [List.length_cons,show j+(rest.length+1)=j+1+rest.length by omega];exact hr2) hK2
theorem MV {ops:Array Oper} {n:Nat} {K:St->Prop} {Q:Exit->Act->World->Prop} (hlt:∀i o e,ops[i]?=some o->e∈o.after->Region.binds .any e=true->e.on<i)
  (hlast:∀i,n<=i->i<ops.size->∀k,n<=k->k<i->rq (dD ops) k i=true) (hQ:∀s' a' w',SRel E s'.nx s' a' w'->K s'->Q .normal a' w'):∀ (m p:Nat) (rest:List Oper) (fuel:Nat) (listed:Array Bool) (s:St) (a:Act) (w:World),n<=p->ops.toList.drop p=rest->(∀o∈rest,o.guard=none)->p<=ops.size->ops.size - p<=fuel->listed.size=ops.size ->
   (∀k,k<p->listed.getD k false=true)->(∀k,p<=k->k<ops.size->listed.getD k true=false)->SRel E s.nx s a w->wV P m (rest.map (aJ P E.ok)) K s->wpAny P .any ops Q fuel listed a w:=by
 have done:∀ (fuel:Nat) (listed:Array Bool) (a:Act) (w:World),listed.size=ops.size->(∀k,k<ops.size->listed.getD k false=true)->Q .normal a w->wpAny P .any ops Q fuel listed a w:=by
  intro fuel listed a w hsz hl hfin
  have hno:Region.ready .any ops listed=[]:=zl036.2 fun i hi=>by
   obtain ⟨h1,o,ho,_⟩:=mem_ready.1 hi
   have hio:i<ops.size:=(zl030.1 ho).1
   have h2:=hl i hio
   have hi':i<listed.size:=by omega
   simp only [jC,lL hi',fV] at h1 h2
   rw [h1] at h2;cases h2
  cases fuel with
  | zero=>exact ⟨hno,hfin⟩
  | succ fuel=>exact ⟨fun _=>hfin,fun i hi=>by rw [hno] at hi;cases hi⟩
 have fin:∀ (p:Nat) (rest:List Oper) (fuel:Nat) (listed:Array Bool) (s:St) (a:Act) (w:World),n<=p->ops.toList.drop p=rest->(∀o∈rest,o.guard=none)->p<=ops.size->ops.size - p<=fuel->listed.size=ops.size ->
   (∀k,k<p->listed.getD k false=true)->(∀k,p<=k->k<ops.size->listed.getD k true=false)->SRel E s.nx s a w->hops (HS P) (rest.map (aJ P E.ok)) (rest.map (aJ P E.ok)) 0 (fun s1=>K { s1 with nx:=s1.nx+stride*(rest.map (aJ P E.ok)).length }) s->wpAny P .any ops Q fuel listed a w:=by
  intro p rest fuel listed s a w hnp hd hg hps hfu hsz hl hu hr h
  have hlen:p+rest.length=ops.size:=by rw [<- hd,rH,vV];omega
  refine QX hlt hlast p hnp rest 0 fuel listed s a w hg (fun i hi=>by rw [<- hd,EI,oZ,Nat.add_zero]) (by omega) (by simpa using hfu) hsz (by simpa using hl) (by simpa using hu) (by simpa using hr) h ?_
  intro f2 l2 s2 a2 w2 hnx hf2 hs2 hl2 hu2 hr2 hK2
  refine done f2 l2 a2 w2 hs2 (fun k hk=>hl2 k (by omega)) (hQ _ a2 w2 ?_ hK2)
  simp only [List.length_map,Nat.zero_add] at hr2 ⊢
  rw [hnx]
  exact hr2
 intro m
 induction m with
 | zero=>intro p rest fuel listed s a w hnp hd hg hps hfu hsz hl hu hr h;exact fin p rest fuel listed s a w hnp hd hg hps hfu hsz hl hu hr h
 | succ m ih =>
  intro p rest fuel listed s a w hnp hd hg hps hfu hsz hl hu hr h
  rcases h with h|⟨q,hq0,hql,_,h⟩|⟨o,r,he,_,hC⟩
  ·exact fin p rest fuel listed s a w hnp hd hg hps hfu hsz hl hu hr h
  rotate_left
  ·cases rest with
   | nil=>cases he
   | cons o rest =>
    simp only [dP,vk] at he
    obtain ⟨he1,he2⟩:=he
    have hlen:p+(rest.length+1)=ops.size:=by
     have:=congrArg List.length hd
     rw [rH,vV,List.length_cons] at this
     omega
    have hd':ops.toList.drop (p+1)=rest:=by
     have:=congrArg (List.drop 1) hd
     simpa [sV,lK] using this
    have hoi:ops[p]?=some o:=by
     have:=congrArg (fun l:List Oper=>l[0]?) hd
     simpa using this
    refine ZU hlt hlast p hnp o hoi (hg o (by simp)) fuel listed a w (by omega) hsz hl hu ?_
    intro fuel' listed' hf' hs' hl' hu'
    rw [<- he1] at hC
    refine zo hr hC ?_
    intro s1 a' w' ⟨s2,hwk,h2⟩ hr'
    exact ih (p+1) rest fuel' listed' s2 a' w' (by omega) hd' (fun o ho=>hg o (by simp [ho])) (by omega) hf' hs' hl' hu' (hwk _ _ _ hr') (by rw [he2];exact h2)
  ·rw [List.length_map] at hql
   have hlen:p+rest.length=ops.size:=by rw [<- hd,rH,vV];omega
   rw [<- List.map_take] at h
   have htl:(rest.take q).length=q:=by rw [eu,Gx hql]
   refine QX hlt hlast p hnp (rest.take q) 0 fuel listed s a w (fun o ho=>hg o (FW ho)) (fun i hi=>?_) (by omega) (by simpa using hfu) hsz (by simpa using hl) (by simpa using hu) (by simpa using hr) h ?_
   ·rw [htl] at hi
    rw [Rt hi,<- hd,EI,oZ,Nat.add_zero]
   ·intro f2 l2 s2 a2 w2 hnx hf2 hs2 hl2 hu2 hr2 ⟨s3,hw,h3⟩
    rw [htl,Nat.add_zero] at hf2 hl2 hu2
    rw [htl,Nat.zero_add] at hr2
    refine ih (p+q) (rest.drop q) f2 l2 s3 a2 w2 (by omega) (by rw [<- hd,sV]) (fun o ho=>hg o (Ou ho)) (by omega) hf2 hs2 hl2 hu2 (hw _ _ _ ?_) (by rw [List.map_drop];exact h3)
    show SRel E (s2.nx+stride*q) { s2 with nx:=s2.nx+stride*q } a2 w2
    rw [hnx]
    exact hr2
theorem I4 {ops:Array Oper} {K:St->Prop} {Q:Exit->Act->World->Prop} {all:List HOper} {tail:List Nat} (n:Nat):∀ (l:List Oper) (j:Nat) (s:St) (a:Act) (w:World),(∀o∈l,o.guard=none)->(∀i,i<l.length->ops[n+j+i]?=l[i]?)->SRel E (s.nx+stride*j) s a w ->
  hops (HS P) all (l.map (aJ P E.ok)) j K s->(∀s' a' w',s'.nx=s.nx->SRel E (s.nx+stride*(j+l.length)) s' a' w'->K s'->wpOps P ops Q tail a' w')->wpOps P ops Q (List.range' (n+j) l.length++tail) a w:=by
 intro l
 induction l with
 | nil=>intro j s a w _ _ hr h hK;exact hK s a w rfl hr h
 | cons o l ih =>
  intro j s a w hg hi hr h hK
  have hoi:ops[n+j]?=some o:=by have:=hi 0 (by simp);simpa using this
  have hgo:=hg o (by simp)
  simp only [List.length_cons,GR,List.cons_append,wpOps,hoi]
  simp only [dP,hops] at h
  have hgd:(aJ P E.ok o).guard=o.guard:=rfl
  rw [hgd,hgo] at h
  simp only at h
  have hw:Region.wanted o (yielded ops a.tmps)=true:=by simp [Region.wanted,hgo]
  rw [if_pos hw]
  refine .inl (xE hr h ?_)
  intro s' a' w' hnx hr' h'
  rw [AZ]
  refine ih (j+1) s' a' w' (fun o ho=>hg o (by simp [ho])) (fun i hi'=>?_) (by rw [hnx];exact hr') h' ?_
  ·have:=hi (i+1) (by simp;omega)
   rw [show n+(j+1)+i=n+j+(i+1) by omega]
   simpa using this
  ·intro s2 a2 w2 h2 hr2 hK2
   rw [hnx] at hr2
   exact hK s2 a2 w2 (h2.trans hnx) (by rw [List.length_cons,show j+(l.length+1)=j+1+l.length by omega];exact hr2) hK2
theorem MP {ops:Array Oper} {K:St->Prop} {Q:Exit->Act->World->Prop} (hQ:∀s' a' w',SRel E s'.nx s' a' w'->K s'->Q .normal a' w'):∀ (m n:Nat) (rest:List Oper) (s:St) (a:Act) (w:World),ops.toList.drop n=rest->(n=0\/∀o∈rest,o.guard=none)->SRel E s.nx s a w->wV P m (rest.map (aJ P E.ok)) K s->wpOps P ops Q (List.range' n rest.length) a w:=by
 have fin:∀ (n:Nat) (rest:List Oper) (s:St) (a:Act) (w:World),ops.toList.drop n=rest->(n=0\/∀o∈rest,o.guard=none)->SRel E s.nx s a w->hops (HS P) (rest.map (aJ P E.ok)) (rest.map (aJ P E.ok)) 0 (fun s1=>K { s1 with nx:=s1.nx+stride*(rest.map (aJ P E.ok)).length }) s->wpOps P ops Q (List.range' n rest.length) a w:=by
  intro n rest s a w hd hg hr h
  have out:∀s' a' w',s'.nx=s.nx->SRel E (s.nx+stride*(0+rest.length)) s' a' w'->K { s' with nx:=s'.nx+stride*(rest.map (aJ P E.ok)).length }->Q .normal a' w':=by
   intro s' a' w' hnx hr' hK
   refine hQ _ a' w' ?_ hK
   simp only [List.length_map,Nat.zero_add] at hr' ⊢
   rw [hnx]
   exact hr'
  rcases hg with rfl|hg
  ·rw [List.drop_zero] at hd
   subst hd
   exact PS ops.toList 0 s a w rfl (by simpa using hr) h out
  ·have:=I4 (P:=P) (E:=E) (Q:=Q) (tail:=[]) (ops:=ops) n rest 0 s a w hg (fun i hi=>by
    rw [<- hd,EI,oZ,Nat.add_zero]) (by simpa using hr) h (fun s' a' w' hnx hr' hK=>out s' a' w' hnx hr' hK)
   rw [List.append_nil,Nat.add_zero] at this
   exact this
 intro m
 induction m with
 | zero=>intro n rest s a w hd hg hr h;exact fin n rest s a w hd hg hr h
 | succ m ih =>
  intro n rest s a w hd hg hr h
  rcases h with h|⟨q,hq0,hql,hfree,h⟩|⟨o,r,he,hfree,hC⟩
  ·exact fin n rest s a w hd hg hr h
  rotate_left
  ·cases rest with
   | nil=>cases he
   | cons o rest =>
    simp only [dP,vk] at he
    obtain ⟨he1,he2⟩:=he
    have hoi:ops[n]?=some o:=by
     have:=congrArg (fun l:List Oper=>l[0]?) hd
     simpa using this
    rw [<- he1] at hC
    have hgo:o.guard=none:=hC.1
    have hd':ops.toList.drop (n+1)=rest:=by
     have:=congrArg (List.drop 1) hd
     simpa [sV,lK] using this
    simp only [List.length_cons,GR,wpOps,hoi]
    have hw:Region.wanted o (yielded ops a.tmps)=true:=by simp [Region.wanted,hgo]
    rw [if_pos hw]
    refine .inl (zo hr hC ?_)
    intro s1 a' w' ⟨s2,hwk,h2⟩ hr'
    refine ih (n+1) rest s2 a' w' hd' (.inr fun o ho=>?_) (hwk _ _ _ hr') (by rw [he2];exact h2)
    rw [<- he2,zl016] at hfree
    simpa [aJ] using hfree (aJ P E.ok o) (zl020.2 ⟨o,ho,rfl⟩)
  ·rw [List.length_map] at hql
   have hfr:∀o∈rest,o.guard=none:=fun o ho=>by
    rw [zl016] at hfree
    simpa [aJ] using hfree (aJ P E.ok o) (zl020.2 ⟨o,ho,rfl⟩)
   have e:List.range' n rest.length=List.range' (n+0) (rest.take q).length++List.range' (n+q) (rest.drop q).length:=by
    rw [eu,Gx hql,rH,Nat.add_zero]
    have:=List.range'_append_1 (s:=n) (m:=q) (n:=rest.length - q)
    rw [show q+(rest.length - q)=rest.length by omega] at this
    exact this.symm
   rw [e]
   rw [<- List.map_take] at h
   refine I4 (P:=P) (E:=E) n (rest.take q) 0 s a w (fun o ho=>hfr o (FW ho)) (fun i hi=>?_) (by simpa using hr) h ?_
   ·rw [eu,Gx hql] at hi
    rw [Rt hi,<- hd,EI,oZ,Nat.add_zero]
   ·intro s' a' w' hnx hr' ⟨s2,hw,h2⟩
    rw [eu,Gx hql,Nat.zero_add] at hr'
    refine ih (n+q) (rest.drop q) s2 a' w' (by rw [<- hd,sV]) (.inr fun o ho=>hfr o (Ou ho)) (hw _ _ _ ?_) (by rw [List.map_drop];exact h2)
    show SRel E (s'.nx+stride*q) { s' with nx:=s'.nx+stride*q } a' w'
    rw [hnx]
    exact hr'
def aaO:HE->Exit
 | .normal=>.normal
 | .exit id=>.exit id
 | .ret=>.ret
theorem zn (hm:P.follows .mixedOrders=true):∀ (c:Code) (Q:HE->St->Prop) (Q':Exit->Act->World->Prop) (s:St) (a:Act) (w:World),SRel E s.nx s a w->hcode P (gm P E.ok c) Q s ->
  (∀e s' a' w',SRel E s'.nx s' a' w'->Q e s'->Q' (aaO e) a' w')->c.wp P Q' a w:=by
 intro c
 induction c with
 | skip=>intro Q Q' s a w hr h hQ;exact wp_skip (hQ .normal s a w hr h)
 | region id ops draw =>
  intro Q Q' s a w hr h hQ
  cases draw with
  | false =>
   simp only [gm,Bool.false_eq_true,if_false,hcode] at h
   refine wp_region ?_
   have:=MP (P:=P) (E:=E) (ops:=ops) (Q:=Q') (fun s' a' w' hr' hK=>hQ .normal _ a' w' hr' hK) _ 0 ops.toList s a w (by simp) (.inl rfl) hr h
   rw [GI]
   simpa using this
  | true =>
   simp only [gm,if_true,hcode,Sz] at h
   obtain ⟨hst,h⟩:=h
   refine wp_region_any hm ?_
   obtain ⟨loc,fp,hr⟩:=hr
   have hlen:(ops.toList.map (aJ P E.ok)).length=ops.size:=by simp
   have hin:∀k,(Array.replicate ops.size false).getD k false=true->False:=fun k hk=>by
    rw [jC,Array.getElem?_replicate] at hk
    split at hk<;>simp at hk
   have hI:=hr.inv
   have up:∀x,vO s.nx (fun _=>False) x->vO s.nx (fun k=>(Array.replicate ops.size false).getD k false=true) x:=fun x hx=>lZ (fun k hk=>hk.elim) hx
   rcases h hI with ⟨D,hdr⟩|⟨n,D,hsp,hdr⟩|⟨m,n,D,hfl,hmn,hsp,hdr⟩
   ·rw [hlen] at hdr
    refine Uj (E:=E) rfl hst ?_ ops.size (Array.replicate ops.size false) (List.range ops.size) [] s.S s.M s.nx loc fp a _ (by simp) ?_ (by simp) (fun i o _ h=>(hin i h).elim) hdr ⟨fun t=>HV.inn_mono (hI.slots t) up,fun id=>HV.inn_mono (hI.trees id) up,fun id h=>up id (hI.alive id h)⟩ (hr.drew _)
    ·intro X S M N loc' fp' a' w' hI' hX hr' ⟨s',e1,e2,e3,hK⟩
     have lt:∀x,vO s.nx X x->x<s.nx+stride*ops.size:=fun x hx=>by
      rcases hx with hx|⟨k,hk,hx⟩
      ·omega
      ·have:=hX k hk
       unfold BQ stride at *
       omega
     refine hQ .normal _ a' w' ?_ hK
     refine ⟨loc',fp',?_⟩
     have:=hr'.lower (N':=s.nx+stride*ops.size) (fun t=>HV.inn_mono (hI'.slots t) lt) (fun id h=>lt id (hI'.alive id h))
     rw [<- e1,<- e2] at this
     show Rel E (s'.nx+stride*ops.size) s'.S s'.M loc' fp' a' w'
     rw [e3]
     exact this
    ·refine (zl079.2 fun k hk=>?_).symm
     rw [zl032] at hk
     simp [hk]
   ·simp only [QP,aZ,decide_eq_true_eq,zl016,zl032,Dv,hlen] at hsp
    obtain ⟨⟨hn,hla⟩,hgs⟩:=hsp
    have hlast:∀i,n<=i->i<ops.size->∀k,k<i->rq (dD ops) k i=true:=fun i h1 h2 k hk=>by
     rcases hla i h2 with h|h
     ·omega
     ·exact h k hk
    have hgs':∀o∈ops.toList.map (aJ P E.ok),o.guard=none:=fun o ho=>by simpa using hgs o ho
    have hgo:∀o∈ops.toList,o.guard=none:=fun o ho=>hgs' _ (zl020.2 ⟨o,ho,rfl⟩)
    have hlt:∀i o e,ops[i]?=some o->e∈o.after->Region.binds .any e=true->e.on<i:=fun i o e ho he hb=>by
     have h1:=(lH hst (show (ops.toList.map (aJ P E.ok))[i]?=some (aJ P E.ok o) by rw [fZ,oZ,ho];rfl)).1
     have h2:=D6 ho he hb
     unfold rq at h2
     rcases dX e.on i with h|h
     ·exact h
     ·rw [JL (lI h1 (Ce (by omega) h))] at h2;cases h2
    have hdr':=QN (P:=P) hgs' (fun i hi=>zl032.1 hi) (by simp) hdr
    refine Jk (E:=E) rfl hst 0 n hn (fun i h1 h2 k _ hk=>hlast i h1 h2 k hk) ?_ ops.size (Array.replicate ops.size false) (List.range n) [] s.S s.M s.nx loc fp a _ (by simp) ?_ ?_ ?_ (fun k hk=>absurd hk (Dn k)) (fun i o _ h=>(hin i h).elim) hdr' ⟨fun t=>HV.inn_mono (hI.slots t) up,fun id=>HV.inn_mono (hI.trees id) up,fun id h=>up id (hI.alive id h)⟩ (hr.drew _)
    ·intro fuel listed X S M N loc' fp' a' w' hfu hsz hl hu hI' hX hr' ⟨s',s2,e1,e2,e3,hw,hK⟩
     have lt:∀x,vO s.nx X x->x<s.nx+stride*n:=fun x hx=>by
      rcases hx with hx|⟨k,hk,hx⟩
      ·omega
      ·have:=hX k hk
       unfold BQ stride at *
       omega
     have h1:=hr'.lower (N':=s.nx+stride*n) (fun t=>HV.inn_mono (hI'.slots t) lt) (fun id h=>lt id (hI'.alive id h))
     rw [<- e1,<- e2] at h1
     have h2:SRel E ({ s' with nx:=s'.nx+stride*n }:St).nx { s' with nx:=s'.nx+stride*n } a' w':=by
      refine ⟨loc',fp',?_⟩
      show Rel E (s'.nx+stride*n) s'.S s'.M loc' fp' a' w'
      rw [e3];exact h1
     have h3:=hw _ _ _ h2
     rw [<- List.map_drop] at hK
     exact MV hlt (fun i h1 h2 k _ hk=>hlast i h1 h2 k hk) (fun s' a' w' h1 h2=>hQ .normal _ a' w' h1 h2) _ n (ops.toList.drop n) fuel listed s2 a' w' (aY _) rfl (fun o ho=>hgo o (Ou ho)) hn hfu hsz hl hu h3 hK
    ·refine (zl079.2 fun k hk=>?_).symm
     rw [zl032] at hk
     have:k<ops.size:=by omega
     simp [this]
    ·intro k _ hk;simp [hk]
    ·simp;omega
   ·simp only [Cm,aZ,decide_eq_true_eq,zl016,zl032,Dv,hlen] at hsp
    obtain ⟨⟨hn,hla⟩,hgs⟩:=hsp
    have hlast:∀i,n<=i->i<ops.size->∀k,m<=k->k<i->rq (dD ops) k i=true:=fun i h1 h2 k hkm hk=>by
     rcases hla i h2 with h|h
     ·omega
     ·rcases h k hk with h|h
      ·omega
      ·exact h
    have hgs':∀o∈ops.toList.map (aJ P E.ok),o.guard=none:=fun o ho=>by simpa using hgs o ho
    have hgo:∀o∈ops.toList,o.guard=none:=fun o ho=>hgs' _ (zl020.2 ⟨o,ho,rfl⟩)
    have hlt:=La (P:=P) (E:=E) rfl hst
    have hdr':=QN (P:=P) hgs' (fun i hi=>by have:=List.mem_range'_1.1 hi;omega) (by simp) hdr
    refine LG (Q:=J5 Q') (fun e a w h=>by cases e<;>first|exact h|exact h.elim) ops.size _ a _ ?_
    suffices h:wpAny P .any ops (J5 Q') (ops.size - m+(List.range m).length) (Array.replicate ops.size false) a { w with drawn:=w.drawn+1 } by
     rw [show ops.size - m+(List.range m).length=ops.size by rw [List.length_range];omega] at h
     exact h
    refine Qv (P:=P) (E:=E) rfl hst (fun c a w h=>h) (List.range m) (ops.size - m) (Array.replicate ops.size false) s.nx s.sl s.M loc fp a _ (by simp) (fun i o _ h=>(hin i h).elim) List.nodup_range (fun i hi=>?_) (hr.drew _) ?_
    ·have him:=zl032.1 hi
     refine ⟨?_,?_⟩
     ·have:i<ops.size:=by omega
      simp [this]
     ·have:=zl016.1 hfl i hi
      cases ho:(ops.toList.map (aJ P E.ok))[i]? with
      | none=>rw [ho] at this;cases this
      | some o =>
       rw [ho] at this
       simp only at this
       cases hf:Jn o with
       | none=>rw [hf] at this;cases this
       | some dx =>
        obtain ⟨d,x⟩:=dx
        rw [hf] at this
        exact ⟨o,d,x,rfl,hf,this⟩
    intro listed' a' hsz' hcl' hun' hr''
    have hun:∀k,listed'.getD k true=false <-> (k<ops.size/\m<=k):=fun k=>by
     rw [hun' k,zl032,Nat.not_lt]
     refine and_congr_left fun _=>?_
     rcases dX k ops.size with h|h
     ·simp [h]
     ·simp [AQ,h,Nat.not_lt.2 h]
    have hI2:=hr''.inv
    have up2:∀x,vO s.nx (fun _=>False) x->vO s.nx (fun k=>listed'.getD k false=true) x:=fun x hx=>lZ (fun k hk=>hk.elim) hx
    refine Jk (E:=E) rfl hst m n hn hlast ?_ (ops.size - m) listed' (List.range' m (n - m)) [] _ s.M s.nx loc fp a' _ hsz' ?_ ?_ ?_ ?_ hcl' hdr' ⟨fun t=>HV.inn_mono (hI2.slots t) up2,fun id=>HV.inn_mono (hI2.trees id) up2,fun id h=>up2 id (hI2.alive id h)⟩ hr''
    ·intro fuel listed X S M N loc' fp' a' w' hfu hsz hl hu hI' hX hr' ⟨s',s2,e1,e2,e3,hw,hK⟩
     have lt:∀x,vO s.nx X x->x<s.nx+stride*n:=fun x hx=>by
      rcases hx with hx|⟨k,hk,hx⟩
      ·omega
      ·have:=hX k hk
       unfold BQ stride at *
       omega
     have h1:=hr'.lower (N':=s.nx+stride*n) (fun t=>HV.inn_mono (hI'.slots t) lt) (fun id h=>lt id (hI'.alive id h))
     rw [<- e1,<- e2] at h1
     have h2:SRel E ({ s' with nx:=s'.nx+stride*n }:St).nx { s' with nx:=s'.nx+stride*n } a' w':=by
      refine ⟨loc',fp',?_⟩
      show Rel E (s'.nx+stride*n) s'.S s'.M loc' fp' a' w'
      rw [e3];exact h1
     have h3:=hw _ _ _ h2
     rw [<- List.map_drop] at hK
     exact MV (Q:=J5 Q') hlt (fun i h1 h2 k h3 hk=>hlast i h1 h2 k (by omega) hk) (fun s' a' w' h1 h2=>hQ .normal _ a' w' h1 h2) _ n (ops.toList.drop n) fuel listed s2 a' w' (aY _) rfl (fun o ho=>hgo o (Ou ho)) hn hfu hsz hl hu h3 hK
    ·rw [show List.range n=List.range m++List.range' m (n - m) by
      have h:=@List.range'_append_1 0 m (n - m)
      rw [Nat.zero_add,Nat.add_sub_cancel' hmn] at h
      rw [GI,GI]
      exact h.symm,ER,List.filter_eq_nil_iff.2,zl079.2,List.nil_append]
     ·intro k hk
      have:=List.mem_range'_1.1 hk
      simpa using (hun k).2 ⟨by omega,by omega⟩
     ·intro k hk h
      have:=(hun k).1 (by simpa using h)
      have:=zl032.1 hk
      omega
    ·intro k h1 h2;exact (hun k).2 ⟨h2,by omega⟩
    ·rw [List.length_range'];omega
    ·intro k hk h;have:=(hun k).1 h;omega
 | seq x y ihx ihy =>
  intro Q Q' s a w hr h hQ
  simp only [gm,hcode] at h
  refine wp_seq (ihx _ _ s a w hr h ?_)
  intro e s' a' w' hr' hq
  cases e with
  | normal =>
   obtain ⟨s2,hw,h2⟩:=hq
   exact ihy Q Q' s2 a' w' (hw _ _ _ hr') h2 hQ
  | exit id=>exact hQ _ _ _ _ hr' hq
  | ret=>exact hQ _ _ _ _ hr' hq
 | cond c x y ihx ihy =>
  intro Q Q' s a w hr h hQ
  simp only [gm,hcode] at h
  generalize hv:ev s.sl (dO c)=v at h
  cases v<;>simp only at h<;>(first|exact h.elim|skip)
  rename_i t
  have hc:a.eval c=.bool t:=by
   obtain ⟨loc,fp,hr0⟩:=hr
   have h1:=hr0.val c
   rw [jd] at hv
   rw [hv] at h1
   exact of_bool h1
  refine wp_cond_split hc (fun ht=>?_) (fun ht=>?_)
  ·obtain ⟨s2,hw,h2⟩:=h.1 ht;exact ihx Q Q' s2 a w (hw _ _ _ hr) h2 hQ
  ·obtain ⟨s2,hw,h2⟩:=h.2 ht;exact ihy Q Q' s2 a w (hw _ _ _ hr) h2 hQ
 | block id b ih =>
  intro Q Q' s a w hr h hQ
  simp only [gm,hcode] at h
  refine wp_block (ih _ _ s a w hr h ?_)
  intro e s' a' w' hr' hq
  cases e with
  | normal=>exact hQ .normal _ _ _ hr' hq
  | exit i =>
   simp only [aaO,Exit.inBlock]
   simp only at hq
   split at hq
   ·rename_i he;rw [if_pos he];exact hQ .normal _ _ _ hr' hq
   ·rename_i he;rw [if_neg he];exact hQ (.exit i) _ _ _ hr' hq
  | ret=>exact hQ .ret _ _ _ hr' hq
 | loop b ih =>
  intro Q Q' s a w hr h hQ
  simp only [gm,hcode] at h
  obtain ⟨I,μ,⟨s0,hw0,hI0⟩,round⟩:=h
  refine wp_loop_ghost (fun n a w=>∃s,SRel E s.nx s a w/\I s/\μ s=n) (μ s0) ⟨s0,hw0 _ _ _ hr,hI0,rfl⟩ ?_
  intro n a1 w1 ⟨s1,hr1,hI1,hn1⟩
  obtain ⟨s0',hw0',hround⟩:=round s1 hI1
  refine ih _ _ s0' a1 w1 (hw0' _ _ _ hr1) hround ?_
  intro e s' a' w' hr' hq
  cases e with
  | normal =>
   obtain ⟨s2,hw2,hI2,hlt⟩:=hq
   exact ⟨μ s2,by omega,s2,hw2 _ _ _ hr',hI2,rfl⟩
  | exit id=>exact hQ _ _ _ _ hr' hq
  | ret=>exact hQ _ _ _ _ hr' hq
 | exit id=>intro Q Q' s a w hr h hQ;exact wp_exit (hQ (.exit id) s a w hr h)
 | ret=>intro Q Q' s a w hr h hQ;exact wp_ret (hQ .ret s a w hr h)
 | scope b ih =>
  intro Q Q' s a w hr h hQ
  refine wp_scope_straight (ih Q _ s a w hr h ?_)
  intro e s' a' w' hr' hq
  cases e with
  | normal=>exact hQ .normal _ _ _ hr' hq
  | exit i=>exact hQ (.exit i) _ _ _ hr' hq
  | ret=>exact hQ .ret _ _ _ hr' hq
 | label l=>intro Q Q' s a w hr h hQ;exact wp_label (hQ .normal s a w hr h)
 | goto l=>intro Q Q' s a w hr h hQ;exact h.elim
 | refuse y=>intro Q Q' s a w hr h hQ;exact h.elim
 | rangeFunc f p x y _ _=>intro Q Q' s a w hr h hQ;exact h.elim
end
section
variable {P:Program} {E:Fr} {N:Nat} {sl st:Lk} {loc:Nat->Value} {fp:Nat->List Nat} {a:Act} {w:World}
end
def ay:Nat->List HV->List (Nat×HV)
 | _,[]=>[]
 | k,v::r=>(k,v)::ay (k+1) r
def finish (rs:List Nat) (K:HV->Prop):HE->St->Prop:=fun e s =>
 match e with
 | .exit _=>False
 | _=>(aB s.M (rs.map fun r=>au r s.sl)).2.2/\K (bG (aB s.M (rs.map fun r=>au r s.sl)).1)
def tmpsOf:List ResultVar->Option (List Nat)
 | []=>some []
 | .tmp t::r=>(tmpsOf r).map (t::·)
 | .cell ..::_=>none
def MC (tmps:Array Value) (x:ResultVar):Sem Value :=
 match x with
 | .tmp t=>pure (tmps.getD t undef)
 | .cell a t=>do loadVar t (<- asAddr (tmps.getD a undef))
theorem Vz {P:Program} (tmps:Array Value) (w:World):∀ (l:List ResultVar) (rs:List Nat),tmpsOf l=some rs->(l.mapM (MC tmps)).run P w=.ok (rs.map fun r=>tmps.getD r undef) w:=by
 intro l
 induction l with
 | nil=>intro rs h;simp [tmpsOf] at h;subst h;simp
 | cons x l ih =>
  intro rs h
  cases x with
  | cell=>simp [tmpsOf] at h
  | tmp t =>
   simp only [tmpsOf,MX] at h
   obtain ⟨rs',h1,rfl⟩:=h
   have:=ih rs' h1
   rw [List.mapM_cons]
   simp only [Sem.run_bind,Sem.run_pure,Result.andThen_ok,this,dP,MC]
theorem EQ {P:Program} {fn:Func} {rs:List Nat} (h:tmpsOf fn.results.toList=some rs) (tmps:Array Value) (w:World) :
  (results fn tmps).run P w=.ok (match rs.map fun r=>tmps.getD r undef with|[v]=>v|vs=>.tuple vs.toArray) w:=by
 have h1:=Vz (P:=P) tmps w _ _ h
 unfold results
 rw [Array.mapM_eq_mapM_toList]
 simp only [map_eq_pure_bind,Sem.run_bind,Sem.run_pure]
 change ((Sem.run P (List.mapM (MC tmps) fn.results.toList) w).andThen _).andThen _=_
 rw [h1]
 simp only [Result.andThen_ok]
 congr 1
 generalize rs.map (fun r=>tmps.getD r undef)=vs
 match vs with
 | []=>rw [dif_neg (by simp)]
 | [v]=>rw [dif_pos (by simp)];rfl
 | _::_::_=>rw [dif_neg (by simp)]
theorem qg (t:Nat):∀ (args:List HV) (k:Nat),au t (ay k args)=if k<=t then args.getD (t - k) .dead else .dead:=by
 intro args
 induction args with
 | nil=>intro k;simp [ay,au]
 | cons v args ih =>
  intro k
  simp only [ay,au]
  by_cases h:k=t
  ·subst h;simp
  ·rw [if_neg h,ih]
   by_cases h2:k<=t
   ·rw [if_pos (by omega),if_pos h2]
    have:t - k=(t - (k+1))+1:=by omega
    rw [this];simp
   ·rw [if_neg (by omega),if_neg h2]
theorem Ej {B:Nat} {F:Nat->Prop} {w0:World} {G:Nat->Prop} {A:Nat->Value} (rargs:List Value) (T:Nat) (h:rargs.length<=T):WU ⟨B,F,w0,SL T,G,A⟩ { tmps:=rargs.toArray++Array.replicate (T - rargs.toArray.size) undef,defers:=[] }:=by
 have hs:(rargs.toArray++Array.replicate (T - rargs.toArray.size) undef).size=T:=by simp;show rargs.length+(T - rargs.length)=T;omega
 refine ⟨fun t ht=>?_,fun t ht=>.inr ?_⟩
 ·simp only [SL,decide_eq_true_eq] at ht
  simp only
  rw [hs];exact ht
 ·simp only [SL,decide_eq_false_iff_not] at ht
  simp only
  rw [jC,AQ (by rw [hs];omega)];rfl
def okL (L T:Nat):Nat->Bool:=fun t=>decide (L<=t)&&decide (t<T)
theorem J7 {B:Nat} {F:Nat->Prop} {w0:World} {G:Nat->Prop} (rargs:List Value) (L T:Nat) (h:rargs.length<=T):WU ⟨B,F,w0,okL L T,G,fun t=>rargs.getD t undef⟩ { tmps:=rargs.toArray++Array.replicate (T - rargs.toArray.size) undef,defers:=[] }:=by
 have hs:(rargs.toArray++Array.replicate (T - rargs.toArray.size) undef).size=T:=by simp;show rargs.length+(T - rargs.length)=T;omega
 refine ⟨fun t ht=>?_,fun t ht=>?_⟩
 ·simp only [okL,aZ,decide_eq_true_eq] at ht
  simp only
  rw [hs];exact ht.2
 ·simp only
  by_cases h2:t<rargs.length
  ·refine .inl ?_
   rw [jC,Sj (by simpa using h2)]
   simp [bf]
  ·refine .inr ?_
   rw [jC,Array.getElem?_append_right (by simp;show rargs.length<=t;omega),Array.getElem?_replicate]
   split<;>rfl
def O4 (L:Nat) (ops:List HOper):Bool:=ops.all fun o=>o.dst.all fun d=>decide (L<=d)
def HCode.low (L:Nat):HCode->Bool
 | .region _ ops=>O4 L ops
 | .seq a b=>a.low L&&b.low L
 | .cond _ a b=>a.low L&&b.low L
 | .block _ b=>b.low L
 | .loop b=>b.low L
 | _=>true
theorem Qm {P:Program} {L T:Nat} {o:Oper} (h:(aJ P (SL T) o).dst.all (fun d=>decide (L<=d))=true):aJ P (okL L T) o=aJ P (SL T) o:=by
 unfold aJ at h ⊢
 cases hd:o.dst with
 | none=>simp [Option.all]
 | some d =>
  rw [hd] at h
  simp only [Option.all] at h ⊢
  simp only [okL,SL,h,uj]
  try rfl
theorem OT {P:Program} {L T:Nat}:∀ (c:Code),(gm P (SL T) c).low L=true->gm P (okL L T) c=gm P (SL T) c:=by
 intro c
 induction c with
 | region i ops draw =>
  intro h
  simp only [gm,HCode.low,O4,zl016] at h ⊢
  congr 1
  apply List.map_congr_left
  intro o ho
  exact Qm (h _ (zl020.2 ⟨o,ho,rfl⟩))
 | seq a b ha hb=>intro h;simp only [gm,HCode.low,aZ] at h ⊢;rw [ha h.1,hb h.2]
 | cond c a b ha hb=>intro h;simp only [gm,HCode.low,aZ] at h ⊢;rw [ha h.1,hb h.2]
 | block i b hb=>intro h;simp only [gm,HCode.low] at h ⊢;rw [hb h]
 | loop b hb=>intro h;simp only [gm,HCode.low] at h ⊢;rw [hb h]
 | scope b hb=>intro h;simp only [gm] at h ⊢;rw [hb h]
 | _=>intro h;rfl
def KI (n m:Nat) (K:HV->List HV->Prop):HV->Prop:=fun r=>∃ts,r=bG ts/\ts.length=n+m/\(∀o∈ts.drop n,∃cs,o=.optr cs)/\K (bG (ts.take n)) (ts.drop n)
theorem JO {a b:List HV} (hl:a.length=b.length) (h:bG a=bG b):a=b:=by
 match a,b,hl with
 | [],[],_=>rfl
 | [x],[y],_=>simpa [bG] using h
 | x1::x2::xs,y1::y2::ys,_=>simpa [bG] using h
def valOf (vs:List Value):Value:=match vs with|[v]=>v|vs=>.tuple vs.toArray
theorem OW.tupOf_ {F:Nat->Prop} {h:Hp} {ts:List HV} {vs:List Value} {fs:List Nat} (o:OW F h dG ts vs fs):OW F h dG [bG ts] [valOf vs] fs:=by
 have hl2:=o.length
 match ts,vs,hl2 with
 | [],[],_=>have:=OW.tup o .nil;simpa [bG,valOf] using this
 | [t],[v],_=>exact o
 | t1::t2::ts,v1::v2::vs,_=>have:=OW.tup o .nil;simpa [bG,valOf] using this
theorem HT.enter {P:Program} (hm:P.follows .mixedOrders=true) {f:FuncId} {fn:Func} {c:Code} {rs:List Nat} (hf:P.funcs[f]?=some fn) (hb:fn.body=some c) (hname:(fn.name == "runtime.NumGoroutine")=false) (hrs:tmpsOf fn.results.toList=some rs)
  {args:List HV} (hlen:args.length<=fn.ntmps) {K:HV->Prop} (s0:St) (hw0:Weak ⟨ay 0 args,[],0⟩ s0) (h:hcode P (gm P (SL fn.ntmps) c) (finish rs K) s0):HT P f args K:=by
 refine ⟨⟨fn,hf,by simp [hb],hname⟩,?_⟩
 intro w rargs F hF hargs
 refine calls_of_wp hf hb ?_
 have hl:=hargs.length
 let E:Fr:=⟨w.heap.size,F,w,SL fn.ntmps,fun _=>False,fun _=>undef⟩
 have hr:SRel E 0 ⟨ay 0 args,[],0⟩ { tmps:=rargs.toArray++Array.replicate (fn.ntmps - rargs.toArray.size) undef,defers:=[] } w:=by
  refine ⟨fun _=>undef,fun _=>[],⟨BelowG.refl _ _ _,aY _,Ej rargs fn.ntmps (by omega),fun id h=>absurd rfl h,fun _ _=>rfl,fun _ _=>rfl,by simp,by simp,by simp,fun t=>?_,rfl⟩⟩
  have hS:(⟨ay 0 args,[],0⟩:St).S t=args.getD t .dead:=by
   show au t (ay 0 args)=_
   rw [qg];simp
  rw [hS]
  by_cases ht:t<args.length
  ·obtain ⟨rv,f1,f2,f3,h1,h2,h3,_⟩:=hargs.at t ht
   have h4:f2=[]:=by simp at h2;exact h2.2.1
   subst h4
   have h5:(rargs.toArray++Array.replicate (fn.ntmps - rargs.toArray.size) undef).getD t undef=rv:=by
    have:t<rargs.length:=by omega
    rw [jC,Sj (by simpa using this)]
    simp [h1]
   simp only [h5]
   exact h3.stable (by simp) (fun b hb=>⟨⟨hF b hb,fun _=>.inl hb,by simp⟩,rfl⟩) (fun _ _ h=>h.elim)
  ·have:args.getD t .dead=.dead:=by simp [List.getD,qo (Nw ht)]
   rw [this];exact .dead .nil
 refine zn (E:=E) hm c (finish rs K) _ s0 _ w (hw0 _ _ _ hr) h ?_
 intro e s' a' w' hr' hq
 obtain ⟨loc,fp,hr1⟩:=hr'
 have fin:(aB s'.M (rs.map fun r=>au r s'.sl)).2.2/\K (bG (aB s'.M (rs.map fun r=>au r s'.sl)).1)->a'.defers=[]/\∃v,(results fn a'.tmps).run P w'=.ok v w' /\
   ∃rv res fs,Ending.returned v=.returned rv/\K res/\OW (fun b=>F b\/(w.heap.size<=b/\b<w'.heap.size/\b ∉ fs)) w'.heap dG [res] [rv] fs/\fs.Nodup/\(∀b∈fs,w.heap.size<=b)/\Below w.heap.size w w':=by
  rintro ⟨hvc,hK⟩
  have hv:OW (frz E fp w') w'.heap (RefR s'.nx s'.M loc w'.heap) (rs.map fun r=>au r s'.sl) (rs.map fun r=>a'.tmps.getD r undef) []:=by
   have:=hr1.vals (rs.map fun r=>Operand.tmp r)
   rw [kZ,kZ] at this
   exact this
  obtain ⟨ff,ids,T⟩:=pK hr1 hv rfl rfl s'.M (fun _=>.inl rfl) hvc
  refine ⟨hr1.defers,_,EQ hrs a'.tmps w',_,bG (aB s'.M (rs.map fun r=>au r s'.sl)).1,ff,rfl,hK,?_,T.nodup,?_,⟨hr1.below.os,hr1.below.tape,hr1.below.output,hr1.below.size,fun k hk=>hr1.below.block k hk (fun h=>(h:False))⟩⟩
  ·have o2:OW (fun b=>F b\/(w.heap.size<=b/\b<w'.heap.size/\b ∉ ff)) w'.heap dG (aB s'.M (rs.map fun r=>au r s'.sl)).1 (rs.map fun r=>a'.tmps.getD r undef) ff:=by
    refine T.own.stable (fun _ _=>rfl) (fun b hb=>⟨?_,rfl⟩) (fun _ _ h=>h)
    by_cases hlt:b<w.heap.size
    ·exact .inl ((hb.2.1 hlt).resolve_right fun h=>(h:False))
    ·refine .inr ⟨by omega,hb.1,fun h=>?_⟩
     obtain ⟨id,_,h2⟩:=T.from_ b h
     exact hb.2.2 id h2
   generalize (aB s'.M (rs.map fun r=>au r s'.sl)).1=ts at *
   generalize (rs.map fun r=>a'.tmps.getD r undef)=vs at *
   have hl2:=o2.length
   match ts,vs,hl2 with
   | [],[],_=>have:=OW.tup o2 .nil;simpa [bG] using this
   | [t],[v],_=>exact o2
   | t1::t2::ts,v1::v2::vs,_=>have:=OW.tup o2 .nil;simpa [bG] using this
  ·intro b hb
   obtain ⟨id,_,h2⟩:=T.from_ b hb
   exact (hr1.fresh id b h2).resolve_right fun h=>(h:False)
 cases e with
 | normal=>exact fin hq
 | ret=>exact fin hq
 | exit i=>exact hq.elim
theorem HTI.enter {P:Program} (hm:P.follows .mixedOrders=true) {f:FuncId} {fn:Func} {c:Code} {rs:List Nat} (hf:P.funcs[f]?=some fn) (hb:fn.body=some c) (hname:(fn.name == "runtime.NumGoroutine")=false) (hrs:tmpsOf fn.results.toList=some rs)
  {args:List HV} (hlen:args.length<=fn.ntmps) {L:Nat} {io:List Nat} (hioL:∀j∈io,j<L) {K:HV->List HV->Prop} (s0:St) (hw0:Weak { ((⟨ay 0 (aS 0 args).1,[],0⟩:St).upd (aS 0 args).2.1) with nx:=(aS 0 args).2.2 } s0) (h:hcode P (gm P (okL L fn.ntmps) c) (finish (rs++io) (KI rs.length io.length K)) s0):HTI P f args io K:=by
 refine ⟨⟨fn,hf,by simp [hb],hname⟩,?_⟩
 intro w rargs F fa hF hargs hnd hFa
 refine calls_of_wp hf hb ?_
 have hl:=hargs.length
 have hal:=hargs.lt
 let E:Fr:=⟨w.heap.size,F,w,okL L fn.ntmps,fun b=>b∈fa,fun t=>rargs.getD t undef⟩
 have u:=hargs.unpack (fun _ _ h=>h) 0 hnd
 obtain ⟨Tt,l,p,a1,b1,c1,d1,e1,g1⟩:=u
 have hlen2:(aS 0 args).1.length=rargs.length:=by
  have:=(g1 (aS 0 args).2.2 Tt l (aY _) (fun id _ _=>⟨rfl,rfl⟩)).length
  exact this
 have hr:SRel E (aS 0 args).2.2 { ((⟨ay 0 (aS 0 args).1,[],0⟩:St).upd (aS 0 args).2.1) with nx:=(aS 0 args).2.2 } { tmps:=rargs.toArray++Array.replicate (fn.ntmps - rargs.toArray.size) undef,defers:=[] } w:=by
  generalize (aS 0 args)=U at *
  have hM:∀id,((⟨ay 0 U.1,[],0⟩:St).upd U.2.1).M id=if id<U.2.2 then Tt id else .dead:=fun id=>by
   rw [St.upd_M,b1]
   simp only [dS,true_and]
   rfl
  have hS:∀t,((⟨ay 0 U.1,[],0⟩:St).upd U.2.1).S t=U.1.getD t .dead:=fun t=>by
   rw [St.upd_S,c1]
   show au t (ay 0 U.1)=_
   rw [qg];simp
  have fz:∀b,F b->frz E (fun id=>if id<U.2.2 then p id else []) w b:=fun b hb=>⟨hF b hb,fun _=>.inl hb,fun id=>by
   by_cases h:id<U.2.2
   ·simp only [h,if_true];exact fun h2=>hFa b ((d1 id (dS _) h).2.2.2 b h2) hb
   ·simp only [h,if_false];simp⟩
  refine ⟨fun id=>if id<U.2.2 then l id else undef,fun id=>if id<U.2.2 then p id else [],⟨BelowG.refl _ _ _,aY _,?_,fun id h=>?_,fun id h=>?_,fun id h=>?_,fun id=>?_,fun i j hij b hb hb'=>?_,fun id b hb=>?_,fun t=>?_,rfl⟩⟩
  ·exact J7 rargs L fn.ntmps (by omega)
  ·show OW _ _ _ [((⟨ay 0 U.1,[],0⟩:St).upd U.2.1).M id] _ _
   have h':((⟨ay 0 U.1,[],0⟩:St).upd U.2.1).M id≠.dead:=h
   rw [hM] at h' ⊢
   by_cases h2:id<U.2.2
   ·simp only [h2,if_true]
    exact (d1 id (dS _) h2).2.1.stable (fun _ _=>rfl) (fun b hb=>⟨fz b hb,rfl⟩) (fun _ _ h=>h)
   ·rw [if_neg h2] at h';exact absurd rfl h'
  ·have h':((⟨ay 0 U.1,[],0⟩:St).upd U.2.1).M id=.dead:=h
   rw [hM] at h'
   by_cases h2:id<U.2.2
   ·rw [if_pos h2] at h';exact absurd h' (d1 id (dS _) h2).1
   ·simp only [h2,if_false]
  ·show ((⟨ay 0 U.1,[],0⟩:St).upd U.2.1).M id=.dead
   rw [hM,if_neg (by omega)]
  ·by_cases h2:id<U.2.2
   ·simp only [h2,if_true];exact (d1 id (dS _) h2).2.2.1
   ·simp only [h2,if_false];exact .nil
  ·by_cases h1:i<U.2.2
   ·by_cases h2:j<U.2.2
    ·simp only [h1,h2,if_true] at hb hb'
     exact e1 i j (dS _) h1 (dS _) h2 hij b hb hb'
    ·simp only [h2,if_false] at hb';cases hb'
   ·simp only [h1,if_false] at hb;cases hb
  ·by_cases h2:id<U.2.2
   ·simp only [h2,if_true] at hb
    exact .inr ((d1 id (dS _) h2).2.2.2 b hb)
   ·simp only [h2,if_false] at hb;cases hb
  ·show OW _ _ _ [((⟨ay 0 U.1,[],0⟩:St).upd U.2.1).S t] _ _
   rw [hS]
   have o2:=g1 U.2.2 (((⟨ay 0 U.1,[],0⟩:St).upd U.2.1).M) (fun id=>if id<U.2.2 then l id else undef) (aY _) (fun id _ h2=>⟨by rw [hM,if_pos h2],by simp [h2]⟩)
   by_cases ht:t<U.1.length
   ·obtain ⟨rv,f1,f2,f3,h1,h2,h3,_⟩:=o2.at t ht
    have h4:f2=[]:=by simp at h2;exact h2.2.1
    subst h4
    have h5:(rargs.toArray++Array.replicate (fn.ntmps - rargs.toArray.size) undef).getD t undef=rv:=by
     have:t<rargs.length:=by omega
     rw [jC,Sj (by simpa using this)]
     simp [h1]
    simp only [h5]
    exact h3.stable (by simp) (fun b hb=>⟨fz b hb,rfl⟩) (fun _ _ h=>h)
   ·have:U.1.getD t .dead=.dead:=by simp [List.getD,qo (Nw ht)]
    rw [this];exact .dead .nil
 refine zn (E:=E) hm c (finish (rs++io) (KI rs.length io.length K)) _ s0 _ w (hw0 _ _ _ hr) h ?_
 intro e s' a' w' hr' hq
 obtain ⟨loc,fp,hr1⟩:=hr'
 have fin:(aB s'.M ((rs++io).map fun r=>au r s'.sl)).2.2/\KI rs.length io.length K (bG (aB s'.M ((rs++io).map fun r=>au r s'.sl)).1)->a'.defers=[]/\∃v,(results fn a'.tmps).run P w'=.ok v w' /\
   ∃rv res outs fs,Ending.returned v=.returned rv/\K res outs/\OW (fun b=>F b\/((b<w.heap.size->b∈fa)/\b<w'.heap.size/\b ∉ fs)) w'.heap dG (res::outs) (rv::io.map fun j=>rargs.getD j undef) fs/\fs.Nodup/\(∀b∈fs,w.heap.size<=b\/b∈fa)/\BelowG w.heap.size (fun b=>b∈fa) w w':=by
  rintro ⟨hvc,ts,hts,htl,hop,hK⟩
  have hv:OW (frz E fp w') w'.heap (RefR s'.nx s'.M loc w'.heap) ((rs++io).map fun r=>au r s'.sl) ((rs++io).map fun r=>a'.tmps.getD r undef) []:=by
   have:=hr1.vals ((rs++io).map fun r=>Operand.tmp r)
   rw [kZ,kZ] at this
   exact this
  obtain ⟨ff,ids,T⟩:=pK hr1 hv rfl rfl s'.M (fun _=>.inl rfl) hvc
  have hown:=T.own
  have hll:=hown.length
  rw [List.length_map,dQ] at hll
  have hts2:=JO (by rw [hll,htl]) hts
  rw [hts2] at hown
  have o2:OW (fun b=>F b\/((b<w.heap.size->b∈fa)/\b<w'.heap.size/\b ∉ ff)) w'.heap dG ts ((rs++io).map fun r=>a'.tmps.getD r undef) ff:=by
   refine hown.stable (fun _ _=>rfl) (fun b hb=>⟨?_,rfl⟩) (fun _ _ h=>h)
   have hnf:b ∉ ff:=fun h=>by
    obtain ⟨id,_,h2⟩:=T.from_ b h
    exact hb.2.2 id h2
   by_cases hlt:b<w.heap.size
   ·rcases hb.2.1 hlt with h|h
    ·exact .inl h
    ·exact .inr ⟨fun _=>h,hb.1,hnf⟩
   ·exact .inr ⟨fun h=>absurd h hlt,hb.1,hnf⟩
  rw [<- zg rs.length ts] at o2
  obtain ⟨ru,rw',f1,f2,e1',e2',hl1,oa,ob⟩:=o2.splitAt
  rw [oW] at e1'
  have hl3:ru.length=(rs.map fun r=>a'.tmps.getD r undef).length:=by rw [hl1,eu,List.length_map];omega
  obtain ⟨rfl,rfl⟩:=List.append_inj e1' hl3.symm
  have hsame:(io.map fun r=>a'.tmps.getD r undef)=io.map fun j=>rargs.getD j undef:=by
   apply List.map_congr_left
   intro j hj
   obtain ⟨k,hk,hkj⟩:=uD hj
   have hkd:k<(ts.drop rs.length).length:=by rw [rH];omega
   obtain ⟨rv,g1,g2,g3,a1',a2',a3',_⟩:=ob.at k hkd
   obtain ⟨cs,hcs⟩:=hop _ (iD hkd)
   rw [bf,bn hkd,fV,hcs] at a3'
   simp only [fZ,bn hk,gV,bT] at a1'
   rw [hkj] at a1'
   rw [<- a1'] at a3'
   rcases hr1.size.kept j (by simp only [E,okL,Bool.and_eq_false_iff,decide_eq_false_iff_not];have:=hioL j hj;omega) with h|h
   ·exact h
   ·rw [h] at a3'
    generalize hu:undef=u at a3'
    cases a3' with
    | leaf _ _ _ _ _ _ g _=>exact g.elim
    | optr _ _ _=>cases hu
  rw [hsame] at ob
  refine ⟨hr1.defers,_,EQ hrs a'.tmps w',_,bG (ts.take rs.length),ts.drop rs.length,ff,rfl,hK,?_,T.nodup,?_,hr1.below⟩
  ·rw [e2']
   rw [e2'] at oa ob
   have:=oa.tupOf_
   exact this.cons1 ob
  ·intro b hb
   obtain ⟨id,_,h2⟩:=T.from_ b hb
   exact hr1.fresh id b h2
 cases e with
 | normal=>exact fin hq
 | ret=>exact fin hq
 | exit i=>exact hq.elim
theorem HT.mono {P:Program} {f:FuncId} {args:List HV} {K K':HV->Prop} (h:HT P f args K) (hk:∀r,K r->K' r):HT P f args K' :=
 ⟨h.1,fun w rargs F hF hargs=>(h.2 w rargs F hF hargs).mono fun _ _ ⟨rv,res,fs,h1,h2,h3⟩=>⟨rv,res,fs,h1,hk _ h2,h3⟩⟩
structure Bc (C:CallSpec):Prop where
 ap:∀f args (K K':HV->Prop),C f args K->(∀r,K r->K' r)->C f args K'
 sem:∀s i d o (K K':St->Prop),C.sem s i d o K->(∀s,K s->K' s)->C.sem s i d o K'
 eqv:∀s s' i d o (K:St->Prop),s.S=s'.S->s.M=s'.M->s.nx=s'.nx->C.sem s i d o K->C.sem s' i d o K
theorem HT.cmono (P:Program):Bc (HS P):=⟨fun _ _ _ _ h hk=>HT.mono h hk,fun _ _ _ _ _ _ h hk=>P5 h hk,fun s s' i d o K h1 h2 h3 h E ro a w next Q hd ho hr hn =>
 h E ro a w next Q hd ho (by unfold SRel at hr ⊢;rw [h1,h2,h3];exact hr) fun t a' w' e hr' hK=>hn t a' w' (by rw [<- h3];exact e) (by rw [<- h3];exact hr') hK⟩
theorem Md {C:CallSpec} (hC:Bc C) {s:St} {i:Nat} {o:HOper} {K K':St->Prop} (h:hop C s i o K) (hk:∀s,K s->K' s):hop C s i o K':=by
 rcases h with h|h
 ·refine .inl ?_
  unfold hop0 at *
  split at h
  ·exact hC.ap _ _ _ _ h fun r hr=>⟨hr.1,hr.2.1,hk _ hr.2.2⟩
  ·exact hC.ap _ _ _ _ h fun r hr=>⟨hr.1,hr.2.1,hk _ hr.2.2⟩
  ·exact ⟨h.1,hk _ h.2⟩
 ·exact .inr (hC.sem _ _ _ _ _ _ h hk)
theorem wS {C:CallSpec} (hC:Bc C) {all:List HOper}:∀ {r:List HOper} {i:Nat} {s:St} {K K':St->Prop},hops C all r i K s->(∀s,K s->K' s)->hops C all r i K' s:=by
 intro r
 induction r with
 | nil=>intro i s K K' h hk;exact hk _ h
 | cons o r ih =>
  intro i s K K' h hk
  have ih':∀s,hops C all r (i+1) K s->hops C all r (i+1) K' s:=fun s hs=>ih hs hk
  simp only [hops] at h ⊢
  split at h
  ·exact Md hC h ih'
  ·split at h
   ·exact ⟨fun hb=>Md hC (h.1 hb) ih',fun hb=>ih' _ (h.2 hb)⟩
   ·exact ih' _ h
   ·exact h
theorem FH {C:CF} {D:DS} {all:List HOper} {masks:List Nat} {nx:Nat} {K K':Lk->Lk->Prop} (hk:∀S M,K S M->K' S M):∀ {l:List Nat} {log:l7} {S M:Lk},dr C D all masks nx K l log S M->dr C D all masks nx K' l log S M:=by
 intro l
 induction l with
 | nil=>intro log S M h;exact hk _ _ h
 | cons i l ih =>
  intro log S M h
  obtain ⟨o,ho,hs,he,h⟩:=h
  exact ⟨o,ho,hs,he,fun e hre=>⟨(h e hre).1,ih (h e hre).2⟩⟩
theorem BM {P:Program}:∀ {m:Nat} {ops:List HOper} {K K':St->Prop} {s:St},wV P m ops K s->(∀s,K s->K' s)->wV P m ops K' s:=by
 intro m
 induction m with
 | zero=>intro ops K K' s h hk;exact wS (HT.cmono P) h fun s hs=>hk _ hs
 | succ m ih =>
  intro ops K K' s h hk
  rcases h with h|⟨n,h0,h1,h2,h⟩|⟨o,r,h0,h1,h⟩
  ·exact .inl (wS (HT.cmono P) h fun s hs=>hk _ hs)
  ·exact .inr (.inl ⟨n,h0,h1,h2,wS (HT.cmono P) h fun s ⟨s2,hw,hs⟩=>⟨s2,hw,ih hs hk⟩⟩)
  ·exact .inr (.inr ⟨o,r,h0,h1,F6 h fun s1 ⟨s2,hw,hs⟩=>⟨s2,hw,ih hs hk⟩⟩)
theorem Oq {P:Program}:∀ {m m':Nat} {ops:List HOper} {K:St->Prop} {s:St},wV P m ops K s->m<=m'->wV P m' ops K s:=by
 intro m
 induction m with
 | zero =>
  intro m' ops K s h _
  cases m' with
  | zero=>exact h
  | succ m'=>exact .inl h
 | succ m ih =>
  intro m' ops K s h hm
  cases m' with
  | zero=>omega
  | succ m' =>
   rcases h with h|⟨n,h0,h1,h2,h⟩|⟨o,r,h0,h1,h⟩
   ·exact .inl h
   ·exact .inr (.inl ⟨n,h0,h1,h2,wS (HT.cmono P) h fun s ⟨s2,hw,hs⟩=>⟨s2,hw,ih hs (by omega)⟩⟩)
   ·exact .inr (.inr ⟨o,r,h0,h1,F6 h fun s1 ⟨s2,hw,hs⟩=>⟨s2,hw,ih hs (by omega)⟩⟩)
theorem UC {P:Program} {ops:List HOper} {K:St->Prop} {s:St} (h:hops (HS P) ops ops 0 (fun s1=>K { s1 with nx:=s1.nx+stride*ops.length }) s):wV P ops.length ops K s:=Oq (m:=0) h (dS _)
theorem Qj {P:Program} {masks:List Nat} {ops:List HOper} {K K':St->Prop} {s:St} (h:Sz P masks ops K s) (hk:∀s,K s->K' s):Sz P masks ops K' s:=by
 obtain ⟨h1,h⟩:=h
 refine ⟨h1,fun hI=>?_⟩
 rcases h hI with ⟨D,h2⟩|⟨n,D,hs,h2⟩|⟨m,n,D,hf,hmn,hs,h2⟩
 ·exact .inl ⟨D,FH (fun S M ⟨s',a,b,c,d⟩=>⟨s',a,b,c,hk _ d⟩) h2⟩
 ·exact .inr (.inl ⟨n,D,hs,FH (fun S M ⟨s',s2,a,b,c,d,e⟩=>⟨s',s2,a,b,c,d,BM e fun _ h=>hk _ h⟩) h2⟩)
 ·exact .inr (.inr ⟨m,n,D,hf,hmn,hs,FH (fun S M ⟨s',s2,a,b,c,d,e⟩=>⟨s',s2,a,b,c,d,BM e fun _ h=>hk _ h⟩) h2⟩)
def CS (P:Program) (D:FuncId->List HV->HV->Prop):CallSpec:={ ap:=fun f args K=>HT P f args (D f args)/\(∃r,D f args r/\r.deep=[])/\∀r,D f args r->r.deep=[]->K r }
theorem CS.cmono (P:Program) (D:FuncId->List HV->HV->Prop):Bc (CS P D):=⟨fun _ _ _ _ h hk=>⟨h.1,h.2.1,fun r a b=>hk r (h.2.2 r a b)⟩,fun _ _ _ _ _ _ h _=>h.elim,fun _ _ _ _ _ _ _ _ _ h=>h.elim⟩
def J9 (masks:List Nat) (all:List HOper):Bool :=
 (List.range all.length).all fun i=>(List.range i).all fun k=>rq masks k i || (match all[k]?,all[i]? with|some x,some y=>!U6 x y|_,_=>true)
theorem Su {P:Program} {D:FuncId->List HV->HV->Prop} {ops:List HOper} {masks:List Nat} {nx:Nat} {K:St->Prop} (hns:J9 masks ops=true):∀ (rest:List HOper) (i:Nat) (log:l7) (s:St),ops.drop i=rest->s.nx=nx->(∀q∈log,q.1<i)->hops (CS P D) ops rest i K s ->
  dr (HT2 P) (DS.of D) ops masks nx (fun S M=>∃s':St,s'.S=S/\s'.M=M/\s'.nx=nx/\K s') (List.range' i rest.length) log s.S s.M:=by
 intro rest
 induction rest with
 | nil=>intro i log s _ hnx _ h;exact ⟨s,rfl,rfl,hnx,h⟩
 | cons o rest ih =>
  intro i log s hdrop hnx hlog h
  have hoi:ops[i]?=some o:=by
   have:=congrArg (fun l:List HOper=>l[0]?) hdrop
   simpa using this
  have hdrop':ops.drop (i+1)=rest:=by
   have:=congrArg (List.drop 1) hdrop
   simpa [sV,lK] using this
  simp only [List.length_cons,GR]
  have hil:=(zl026.1 hoi).1
  have ck:∀e:HV×List Upd,∀q∈log,chk (DS.of D).own masks ops i o e s.S q:=by
   intro e q hq b1 _ o' ho' hs
   have hlt:=hlog q hq
   simp only [J9,zl016,zl032,Dv] at hns
   rcases hns i hil q.1 hlt with h|h
   ·rw [b1] at h;cases h
   ·rw [ho',hoi] at h
    simp only [zu] at h
    rw [<- Gf] at h
    exact absurd (h.symm.trans hs) (by simp)
  have stepS:∀ (us:List Upd) (v:HV),((s.upd us).put o.dst v).S=nZ o (v,us) s.S:=fun us v=>by rw [St.put_S,St.upd_S];rfl
  have stepM:∀ (us:List Upd) (v:HV),((s.upd us).put o.dst v).M=yE (v,us) s.M:=fun us v=>by rw [St.put_M,St.upd_M];rfl
  have next:∀ (us:List Upd) (v:HV) ent,ent.1=i->hops (CS P D) ops rest (i+1) K ((s.upd us).put o.dst v)->dr (HT2 P) (DS.of D) ops masks nx (fun S M=>∃s':St,s'.S=S/\s'.M=M/\s'.nx=nx/\K s') (List.range' (i+1) rest.length) (ent::log) (nZ o (v,us) s.S) (yE (v,us) s.M):=by
   intro us v ent he h'
   have:=ih (i+1) (ent::log) ((s.upd us).put o.dst v) hdrop' (by rw [St.put_nx,St.upd_nx];exact hnx) (fun q hq=>by
    rcases zl011.1 hq with rfl|hq
    ·omega
    ·have:=hlog q hq;omega) h'
   rw [stepS,stepM] at this
   exact this
  have hstr:s.nx+stride*(i+1)=nx+stride*i+stride:=by rw [hnx];unfold stride;omega
  have run:gd ops o s.S=some true->hop (CS P D) s i o (hops (CS P D) ops rest (i+1) K)->∃o',ops[i]?=some o'/\eH (HT2 P) (DS.of D) ops (nx+stride*i) o' s.S s.M/\(∃e,iG (DS.of D) ops (nx+stride*i) o' s.S s.M e)/\∀e,iG (DS.of D) ops (nx+stride*i) o' s.S s.M e->(∀q∈log,chk (DS.of D).own masks ops i o' e s.S q)/\dr (HT2 P) (DS.of D) ops masks nx (fun S M=>∃s':St,s'.S=S/\s'.M=M/\s'.nx=nx/\K s') (List.range' (i+1) rest.length) ((i,vP o' s.S e.2,qH o' s.S)::log) (nZ o' e s.S) (yE e s.M):=by
   intro hg hh
   refine ⟨o,hoi,?_⟩
   unfold eH iG
   rw [hg]
   simp only
   have hM:(fun i=>au i s.st)=s.M:=rfl
   replace hh:=hh.resolve_right (fun h=>h)
   unfold hop0 at hh
   rw [jd,hM,hstr,hnx] at hh
   have callc:∀ (f:FuncId) (args xs:List HV),(CS P D f args fun r=>(aO xs || r.noRd)=true/\(unpack (nx+stride*i) r).2.2<=nx+stride*i+stride/\hops (CS P D) ops rest (i+1) K ((s.upd (unpack (nx+stride*i) r).2.1).put o.dst (unpack (nx+stride*i) r).1)) ->
     (HT P f args (D f args)/\∀r,D f args r->r.deep=[]->(aO xs || r.noRd)=true/\(unpack (nx+stride*i) r).2.2<=nx+stride*i+stride)/\(∃e:HV×List Upd,∃r,D f args r/\r.deep=[]/\e=((unpack (nx+stride*i) r).1,(unpack (nx+stride*i) r).2.1)) /\
     ∀e:HV×List Upd,(∃r,D f args r/\r.deep=[]/\e=((unpack (nx+stride*i) r).1,(unpack (nx+stride*i) r).2.1))->(∀q∈log,chk (DS.of D).own masks ops i o e s.S q)/\dr (HT2 P) (DS.of D) ops masks nx (fun S M=>∃s':St,s'.S=S/\s'.M=M/\s'.nx=nx/\K s') (List.range' (i+1) rest.length) ((i,vP o s.S e.2,qH o s.S)::log) (nZ o e s.S) (yE e s.M):=by
    rintro f args xs ⟨c1,⟨r0,c2,c3⟩,c4⟩
    refine ⟨⟨c1,fun r a b=>⟨(c4 r a b).1,(c4 r a b).2.1⟩⟩,⟨_,r0,c2,c3,rfl⟩,?_⟩
    rintro e ⟨r,d1,d2,rfl⟩
    exact ⟨ck _,next _ _ _ rfl (c4 r d1 d2).2.2⟩
   split at hh
   ·rename_i f xs heq
    rw [heq]
    simp only [kT,nY]
    simp only [if_neg (show ¬ (DS.of D).own f=true from fun h=>Bool.noConfusion h)]
    exact callc f _ xs hh
   ·rename_i f cap xs heq
    rw [heq]
    exact callc f _ (xs++cap) hh
   ·rename_i op h1 h2
    have e1:kT (HT2 P) (DS.of D) s.M (nx+stride*i) (o.op.map (bU s.S))=(ah s.M (nx+stride*i) (o.op.map (bU s.S))).2.2:=by
     unfold kT;split
     ·rename_i f xs heq;exact absurd heq (h1 f xs)
     ·rename_i f cap xs heq;exact absurd heq (h2 f cap xs)
     ·rfl
    have e2:∀e,nY (DS.of D) s.M (nx+stride*i) e (o.op.map (bU s.S))=(e=((ah s.M (nx+stride*i) (o.op.map (bU s.S))).1,(ah s.M (nx+stride*i) (o.op.map (bU s.S))).2.1)):=fun e=>by
     unfold nY;split
     ·rename_i f xs heq;exact absurd heq (h1 f xs)
     ·rename_i f cap xs heq;exact absurd heq (h2 f cap xs)
     ·rfl
    rw [e1]
    simp only [e2]
    refine ⟨hh.1,⟨_,rfl⟩,?_⟩
    rintro e rfl
    exact ⟨ck _,next _ _ _ rfl hh.2⟩
  simp only [hops] at h
  cases hg:o.guard with
  | none =>
   rw [hg] at h
   exact run (by unfold gd;rw [hg]) h
  | some jw =>
   obtain ⟨j,want⟩:=jw
   rw [hg] at h
   simp only at h
   cases hd:(ops[j]?).bind (·.dst) with
   | none=>rw [hd] at h;exact h.elim
   | some d =>
    rw [hd] at h
    simp only [gV] at h
    generalize hv:au d s.sl=v at h
    cases v with
    | bool b =>
     simp only at h
     have hv':s.S d=.bool b:=hv
     have hgd:gd ops o s.S=some (b==want):=by unfold gd;rw [hg];simp only [hd,gV,hv']
     by_cases hbw:b=want
     ·exact run (by rw [hgd];simp [hbw]) (h.1 hbw)
     ·refine ⟨o,hoi,?_⟩
      have:(b==want)=false:=by simpa using hbw
      unfold eH iG
      rw [hgd,this]
      simp only
      refine ⟨trivial,⟨_,rfl⟩,?_⟩
      rintro e rfl
      exact ⟨ck _,next [] (.tup []) _ rfl (h.2 hbw)⟩
    | tup cs =>
     cases cs with
     | cons _ _=>exact h.elim
     | nil =>
      simp only at h
      have hv':s.S d=.tup []:=hv
      have hgd:gd ops o s.S=some false:=by unfold gd;rw [hg];simp only [hd,gV,hv']
      refine ⟨o,hoi,?_⟩
      unfold eH iG
      rw [hgd]
      simp only
      refine ⟨trivial,⟨_,rfl⟩,?_⟩
      rintro e rfl
      exact ⟨ck _,next [] (.tup []) _ rfl h⟩
    | _=>exact h.elim
theorem tX {P:Program}:∀ {c:HCode} {Q Q':HE->St->Prop} {s:St},hcode P c Q s->(∀e s,Q e s->Q' e s)->hcode P c Q' s:=by
 intro c
 induction c with
 | skip=>intro Q Q' s h hq;exact hq _ _ h
 | region inc ops =>
  intro Q Q' s h hq
  cases inc with
  | none=>exact BM h fun s hs=>hq _ _ hs
  | some inc=>exact Qj h fun s hs=>hq _ _ hs
 | seq a b iha ihb =>
  intro Q Q' s h hq
  refine iha (Q':=fun e s1=>match e with|.normal=>∃s',Weak s1 s'/\hcode P b Q' s'|e=>Q' e s1) h ?_
  intro e s1 h1
  cases e with
  | normal=>obtain ⟨s',hw,h2⟩:=h1;exact ⟨s',hw,ihb h2 hq⟩
  | exit i=>exact hq _ _ h1
  | ret=>exact hq _ _ h1
 | cond c a b iha ihb =>
  intro Q Q' s h hq
  simp only [hcode] at h ⊢
  split at h
  ·exact ⟨fun ht=>by obtain ⟨s',hw,h2⟩:=h.1 ht;exact ⟨s',hw,iha h2 hq⟩,fun ht=>by obtain ⟨s',hw,h2⟩:=h.2 ht;exact ⟨s',hw,ihb h2 hq⟩⟩
  ·exact h
 | block id b ih =>
  intro Q Q' s h hq
  refine ih (Q':=fun e s1=>match e with|.exit i=>if i=id then Q' .normal s1 else Q' (.exit i) s1|e=>Q' e s1) h ?_
  intro e s1 h1
  cases e with
  | normal=>exact hq _ _ h1
  | exit i =>
   simp only at h1 ⊢
   split at h1
   ·rename_i hi;rw [if_pos hi];exact hq _ _ h1
   ·rename_i hi;rw [if_neg hi];exact hq _ _ h1
  | ret=>exact hq _ _ h1
 | loop b ih =>
  intro Q Q' s h hq
  obtain ⟨I,μ,h0,hr⟩:=h
  refine ⟨I,μ,h0,fun s hs=>?_⟩
  obtain ⟨s0,hw0,h1⟩:=hr s hs
  refine ⟨s0,hw0,ih (Q':=fun e s1=>match e with|.normal=>∃s',Weak s1 s'/\I s'/\μ s'<μ s|e=>Q' e s1) h1 ?_⟩
  intro e s1 h1
  cases e with
  | normal=>exact h1
  | exit i=>exact hq _ _ h1
  | ret=>exact hq _ _ h1
 | exit id=>intro Q Q' s h hq;exact hq _ _ h
 | ret=>intro Q Q' s h hq;exact hq _ _ h
 | bad=>intro Q Q' s h hq;exact h.elim
inductive HI where
 | c (x:HCode)
 | b (id:Nat)
 | o (C:CallSpec) (all rest:List HOper) (i:Nat)
 | l (I:St->Prop) (μ:St->Nat) (m:Nat)
def hk (P:Program):List HI->(HE->St->Prop)->HE->St->Prop
 | [],Q,e,s=>Q e s
 | .c x::k,Q,e,s=>match e with
  | .normal=>∃s',Weak s s'/\hcode P x (hk P k Q) s'
  | e=>hk P k Q e s
 | .b id::k,Q,e,s=>match e with
  | .exit i=>if i=id then hk P k Q .normal s else hk P k Q (.exit i) s
  | e=>hk P k Q e s
 | .o C all rest i::k,Q,e,s=>match e with
  | .normal=>hops C all rest i (fun s1=>hk P k Q .normal { s1 with nx:=s1.nx+stride*all.length }) s
  | e=>hk P k Q e s
 | .l I μ m::k,Q,e,s=>match e with
  | .normal=>∃s',Weak s s'/\I s'/\μ s'<m
  | e=>hk P k Q e s
def hx (P:Program) (k:List HI) (Q:HE->St->Prop) (s:St):Prop:=hk P k Q .normal s
section
variable {P:Program} {k:List HI} {Q:HE->St->Prop} {s:St} {C:CallSpec}
theorem qj {x:HCode} {s':St} (hw:Weak s s') (h:hx P (.c x::k) Q s'):hx P (.c x::k) Q s:=by
 obtain ⟨s2,hw2,h2⟩:=h
 exact ⟨s2,hw.trans hw2,h2⟩
theorem fF (h:hx P k Q s):hx P (.c .skip::k) Q s:=⟨s,Weak.refl s,h⟩
theorem aU {a b:HCode} (h:hx P (.c a::.c b::k) Q s):hx P (.c (.seq a b)::k) Q s:=by
 obtain ⟨s',hw,h⟩:=h
 refine ⟨s',hw,tX h ?_⟩
 intro e s1 h1
 cases e with
 | normal=>exact h1
 | exit i=>exact h1
 | ret=>exact h1
theorem bg {ops:List HOper} (h:hx P (.o (HS P) ops ops 0::k) Q s):hx P (.c (.region none ops)::k) Q s:=⟨s,Weak.refl s,UC h⟩
theorem xh {ops:List HOper} (n:Nat) (h0:(decide (0<n)&&decide (n<=ops.length)&&ops.all fun o=>o.guard.isNone)=true) (h:hx P (.o (HS P) (ops.take n) (ops.take n) 0::.c (.region none (ops.drop n))::k) Q s):hx P (.c (.region none ops)::k) Q s:=by
 simp only [aZ,decide_eq_true_eq] at h0
 obtain ⟨⟨h1,h2⟩,h3⟩:=h0
 refine ⟨s,Weak.refl s,?_⟩
 obtain ⟨m,hm⟩:∃m,ops.length=m+1:=⟨ops.length - 1,by omega⟩
 show wV P ops.length ops _ s
 rw [hm]
 refine .inr (.inl ⟨n,h1,h2,h3,?_⟩)
 refine wS (HT.cmono P) h ?_
 rintro s1 ⟨s2,hw,hs⟩
 rw [eu,Gx h2] at hw
 refine ⟨s2,hw,Oq hs ?_⟩
 rw [rH];omega
theorem fD {id:Nat} {x:HCode} (h:hx P (.c x::.b id::k) Q s):hx P (.c (.block id x)::k) Q s:=by
 obtain ⟨s',hw,h⟩:=h
 refine ⟨s',hw,tX h ?_⟩
 intro e s1 h1
 cases e with
 | normal=>exact h1
 | exit i=>exact h1
 | ret=>exact h1
theorem Az {id:Nat} (h:hx P k Q s):hx P (.b id::k) Q s:=h
theorem Rl {c:HX} {x y:HCode} (t:Bool) (hc:ev s.sl c=.bool t) (h1:t=true->hx P (.c x::k) Q s) (h2:t=false->hx P (.c y::k) Q s):hx P (.c (.cond c x y)::k) Q s:=by
 refine ⟨s,Weak.refl s,?_⟩
 simp only [hcode,hc]
 exact ⟨h1,h2⟩
theorem fM {c:HX} {x y:HCode} (hc:ev s.sl c=.bool true) (h1:hx P (.c x::k) Q s):hx P (.c (.cond c x y)::k) Q s:=Rl true hc (fun _=>h1) (fun h=>by cases h)
theorem fO {c:HX} {x y:HCode} (hc:ev s.sl c=.bool false) (h1:hx P (.c y::k) Q s):hx P (.c (.cond c x y)::k) Q s:=Rl false hc (fun h=>by cases h) (fun _=>h1)
theorem ZX {id:Nat} (h:hk P k Q (.exit id) s):hx P (.c (.exit id)::k) Q s:=⟨s,Weak.refl s,h⟩
theorem abf (h:hk P k Q .ret s):hx P (.c .ret::k) Q s:=⟨s,Weak.refl s,h⟩
theorem Yw {b:HCode} (I:St->Prop) (μ:St->Nat) (s0:St) (hw:Weak s s0) (h0:I s0) (hr:∀s,I s->hx P (.c b::.l I μ (μ s)::k) Q s):hx P (.c (.loop b)::k) Q s:=by
 refine ⟨s,Weak.refl s,I,μ,⟨s0,hw,h0⟩,fun s1 h1=>?_⟩
 obtain ⟨s2,hw2,h2⟩:=hr s1 h1
 refine ⟨s2,hw2,tX h2 ?_⟩
 intro e s3 h3
 cases e with
 | normal=>exact h3
 | exit i=>exact h3
 | ret=>exact h3
theorem ae9 {I:St->Prop} {μ:St->Nat} {m:Nat} (s':St) (hw:Weak s s') (h1:I s') (h2:μ s'<m):hx P (.l I μ m::k) Q s:=⟨s',hw,h1,h2⟩
theorem WA {all:List HOper} {i:Nat}:hx P (.o C all [] i::k) Q s=hx P k Q { s with nx:=s.nx+stride*all.length }:=rfl
theorem ac5 {all r:List HOper} {i:Nat} {d:Option Nat} {op:HOp HX} (hnc:op.isCall=false)
  (h:(ah s.M (s.nx+stride*i) (op.map (ev s.sl))).2.2/\hx P (.o C all r (i+1)::k) Q ((s.upd (ah s.M (s.nx+stride*i) (op.map (ev s.sl))).2.1).put d (ah s.M (s.nx+stride*i) (op.map (ev s.sl))).1)):hx P (.o C all (⟨d,op,none⟩::r) i::k) Q s:=by
 refine Or.inl ?_
 cases op<;>first|exact h|cases hnc
theorem zD {all r:List HOper} {i:Nat} {d:Option Nat} {op:HOp HX} (h:C.sem s i d op fun s1=>hx P (.o C all r (i+1)::k) Q s1):hx P (.o C all (⟨d,op,none⟩::r) i::k) Q s:=Or.inr h
theorem LH {all r:List HOper} {i:Nat} {o:HOper} {j:Nat} {want:Bool} (hg:o.guard=some (j,want)) {d:Nat} (hd:(all[j]?).bind (·.dst)=some d) {b:Bool} (hb:au d s.sl=.bool b) (h1:b=want->hx P (.o C all (⟨o.dst,o.op,none⟩::r) i::k) Q s) (h2:b≠want->hx P (.o C all r (i+1)::k) Q (s.put o.dst (.tup []))) :
  hx P (.o C all (o::r) i::k) Q s:=by
 show hops C all (o::r) i _ s
 simp only [hops,hg,hd,gV,hb]
 exact ⟨h1,h2⟩
theorem Tf {all r:List HOper} {i:Nat} {o:HOper} {j:Nat} {want:Bool} (hg:o.guard=some (j,want)) {d:Nat} (hd:(all[j]?).bind (·.dst)=some d) (hb:au d s.sl=.tup []) (h2:hx P (.o C all r (i+1)::k) Q (s.put o.dst (.tup []))) :
  hx P (.o C all (o::r) i::k) Q s:=by
 show hops C all (o::r) i _ s
 simp only [hops,hg,hd,gV,hb]
 exact h2
theorem YJ {all r:List HOper} {i:Nat} {d:Option Nat} {f:FuncId} {xs:List HX} {K:HV->Prop} (hC:HT P f (cZ bM s.M (xs.map (ev s.sl))) K)
  (h:∀v,K v->(aO (xs.map (ev s.sl)) || v.noRd)=true/\(unpack (s.nx+stride*i) v).2.2<=s.nx+stride*(i+1)/\hx P (.o (HS P) all r (i+1)::k) Q ((s.upd (unpack (s.nx+stride*i) v).2.1).put d (unpack (s.nx+stride*i) v).1)) :
  hx P (.o (HS P) all (⟨d,.call f xs,none⟩::r) i::k) Q s:=Or.inl (hC.mono h)
theorem Xw {all r:List HOper} {i:Nat} {d:Option Nat} {x:HX} {f:FuncId} {cap:List HV} (hf:ev s.sl x=.fn f cap) {xs:List HX} {K:HV->Prop} (hC:HT P f (cZ bM s.M (xs.map (ev s.sl)++cap)) K)
  (h:∀v,K v->(aO (xs.map (ev s.sl)++cap) || v.noRd)=true/\(unpack (s.nx+stride*i) v).2.2<=s.nx+stride*(i+1)/\hx P (.o (HS P) all r (i+1)::k) Q ((s.upd (unpack (s.nx+stride*i) v).2.1).put d (unpack (s.nx+stride*i) v).1)) :
  hx P (.o (HS P) all (⟨d,.callv x xs,none⟩::r) i::k) Q s:=by
 show hop (HS P) s i ⟨d,.callv x xs,none⟩ _
 refine Or.inl ?_
 simp only [hop0,HOp.map,hf]
 exact hC.mono h
theorem bJ {ops:List HOper} {masks:List Nat} (h1:lQ masks ops=true) (h2:J9 masks ops=true) (D:FuncId->List HV->HV->Prop) (h:hx P (.o (CS P D) ops ops 0::k) Q s):hx P (.c (.region (some masks) ops)::k) Q s:=by
 refine ⟨s,Weak.refl s,h1,fun _=>.inl ⟨DS.of D,?_⟩⟩
 have:=Su h2 ops 0 [] s rfl rfl (by simp) h
 rw [GI]
 exact this
theorem Ve {D:FuncId->List HV->HV->Prop} {all r:List HOper} {i:Nat} {d:Option Nat} {f:FuncId} {xs:List HX} (hC:HT P f (cZ bM s.M (xs.map (ev s.sl))) (D f (cZ bM s.M (xs.map (ev s.sl))))) (hex:∃r,D f (cZ bM s.M (xs.map (ev s.sl))) r/\r.deep=[])
  (h:∀v,D f (cZ bM s.M (xs.map (ev s.sl))) v->v.deep=[]->(aO (xs.map (ev s.sl)) || v.noRd)=true/\(unpack (s.nx+stride*i) v).2.2<=s.nx+stride*(i+1)/\hx P (.o (CS P D) all r (i+1)::k) Q ((s.upd (unpack (s.nx+stride*i) v).2.1).put d (unpack (s.nx+stride*i) v).1)) :
  hx P (.o (CS P D) all (⟨d,.call f xs,none⟩::r) i::k) Q s:=Or.inl ⟨hC,hex,h⟩
end
def bu (P:Program) (f:FuncId):Option (HCode×List Nat×Nat) :=
 match P.funcs[f]? with
 | some fn=>match fn.body,tmpsOf fn.results.toList with
  | some c,some rs=>if fn.name == "runtime.NumGoroutine" then none else some (gm P (SL fn.ntmps) c,rs,fn.ntmps)
  | _,_=>none
 | none=>none
theorem HT.of {P:Program} (hm:P.follows .mixedOrders=true) {f:FuncId} {c:HCode} {rs:List Nat} {T:Nat} (hf:bu P f=some (c,rs,T)) {args:List HV} (hlen:args.length<=T) {K:HV->Prop} (h:hx P [.c c] (finish rs K) ⟨ay 0 args,[],0⟩):HT P f args K:=by
 unfold bu at hf
 cases h1:P.funcs[f]? with
 | none=>simp [h1] at hf
 | some fn =>
  rw [h1] at hf
  simp only at hf
  cases h2:fn.body with
  | none=>simp [h2] at hf
  | some cd =>
   cases h3:tmpsOf fn.results.toList with
   | none=>simp [h2,h3] at hf
   | some rs' =>
    simp only [h2,h3] at hf
    split at hf
    ·cases hf
    ·rename_i hname
     simp only [bT,jg] at hf
     obtain ⟨rfl,rfl,rfl⟩:=hf
     obtain ⟨s',hw,h4⟩:=h
     refine HT.enter hm h1 h2 (by simpa using hname) h3 hlen s' hw ?_
     exact h4
theorem HTI.of {P:Program} (hm:P.follows .mixedOrders=true) {f:FuncId} {c:HCode} {rs:List Nat} {T:Nat} (hf:bu P f=some (c,rs,T)) {args:List HV} (hlen:args.length<=T) (L:Nat) (io:List Nat) (hlow:c.low L=true) (hio:(io.all fun j=>decide (j<L))=true) {K:HV->List HV->Prop} (s0:St) (h0:{ ((⟨ay 0 (aS 0 args).1,[],0⟩:St).upd (aS 0 args).2.1) with nx:=(aS 0 args).2.2 }=s0) (h:hx P [.c c] (finish (rs++io) (KI rs.length io.length K)) s0):HTI P f args io K:=by
 unfold bu at hf
 cases h1:P.funcs[f]? with
 | none=>simp [h1] at hf
 | some fn =>
  rw [h1] at hf
  simp only at hf
  cases h2:fn.body with
  | none=>simp [h2] at hf
  | some cd =>
   cases h3:tmpsOf fn.results.toList with
   | none=>simp [h2,h3] at hf
   | some rs' =>
    simp only [h2,h3] at hf
    split at hf
    ·cases hf
    ·rename_i hname
     simp only [bT,jg] at hf
     obtain ⟨rfl,rfl,rfl⟩:=hf
     obtain ⟨s',hw,h4⟩:=h
     subst h0
     refine HTI.enter hm h1 h2 (by simpa using hname) h3 hlen (L:=L) (by simpa [zl016] using hio) s' hw ?_
     rw [OT cd hlow]
     exact h4
theorem Bo:∀ (vs:List HV) (L:Lk),(aB L vs).1.length=vs.length
 | [],_=>rfl
 | v::vs,L=>by simp only [aB,List.length_cons];rw [Bo vs]
theorem VD:∀c:HCode,c.low 0=true:=by
 intro c
 induction c with
 | region inc ops=>simp [HCode.low,O4,Option.all_eq_true]
 | seq a b ha hb=>simp [HCode.low,ha,hb]
 | cond x a b ha hb=>simp [HCode.low,ha,hb]
 | block i b hb=>simpa [HCode.low] using hb
 | loop b hb=>simpa [HCode.low] using hb
 | _=>rfl
theorem HTM.of {P:Program} (hm:P.follows .mixedOrders=true) {f:FuncId} {c:HCode} {rs:List Nat} {T:Nat} (hf:bu P f=some (c,rs,T)) {args:List HV} (hlen:args.length<=T) {K:HV->Prop} (s0:St) (h0:{ ((⟨ay 0 (aS 0 args).1,[],0⟩:St).upd (aS 0 args).2.1) with nx:=(aS 0 args).2.2 }=s0) (h:hx P [.c c] (finish rs K) s0):HTM P f args K:=by
 refine HTI.of hm hf hlen 0 [] (VD c) rfl s0 h0 ?_
 obtain ⟨s',hw,h4⟩:=h
 refine ⟨s',hw,tX h4 ?_⟩
 intro e s1 h1
 have key:(aB s1.M (rs.map fun r=>au r s1.sl)).2.2/\K (bG (aB s1.M (rs.map fun r=>au r s1.sl)).1)->(aB s1.M ((rs++[]).map fun r=>au r s1.sl)).2.2/\KI rs.length ([]:List Nat).length (fun r _=>K r) (bG (aB s1.M ((rs++[]).map fun r=>au r s1.sl)).1):=by
  rw [List.append_nil]
  rintro ⟨a,b⟩
  have hl:(aB s1.M (rs.map fun r=>au r s1.sl)).1.length=rs.length:=by rw [Bo,List.length_map]
  refine ⟨a,_,rfl,hl,fun o ho=>?_,?_⟩
  ·rw [Jb (by omega)] at ho;cases ho
  ·rw [kC (by omega)];exact b
 cases e with
 | normal=>exact key h1
 | ret=>exact key h1
 | exit i=>exact h1
theorem Ri {P:Program} {k:List HI} {Q:HE->St->Prop} {x:HCode} {s s':St} (hw:Weak s s') (h:hcode P x (hk P k Q) s'):hx P (.c x::k) Q s:=⟨s',hw,h⟩
def GM (id:Nat):List HI->Option (List HI)
 | []=>none
 | .b i::k=>if i=id then some k else GM id k
 | .c _::k=>GM id k
 | .o ..::k=>GM id k
 | .l ..::k=>GM id k
theorem aao {P:Program} {id:Nat} {k k':List HI} {Q:HE->St->Prop} {s:St} (hp:GM id k=some k') (h:hx P k' Q s):hk P k Q (.exit id) s:=by
 induction k with
 | nil=>cases hp
 | cons a k ih =>
  cases a with
  | b i =>
   simp only [GM] at hp
   simp only [hk]
   split at hp
   ·rename_i hi;cases hp;rw [if_pos hi.symm];exact h
   ·rename_i hi;rw [if_neg (fun e=>hi e.symm)];exact ih hp
  | c _=>exact ih hp
  | o=>exact ih hp
  | l=>exact ih hp
theorem aba {P:Program} {k:List HI} {Q:HE->St->Prop} {s:St} (h:Q .ret s):hk P k Q .ret s:=by
 induction k with
 | nil=>exact h
 | cons a k ih=>cases a<;>exact ih
theorem gJ {P:Program} {id:Nat} {k k':List HI} {Q:HE->St->Prop} {s:St} (hp:GM id k=some k') (h:hx P k' Q s):hx P (.c (.exit id)::k) Q s:=ZX (aao hp h)
theorem Yx {P:Program} {k:List HI} {Q:HE->St->Prop} {s:St} (h:Q .ret s):hx P (.c .ret::k) Q s:=abf (aba h)
theorem YG {P:Program} {k:List HI} {rs:List Nat} {K:HV->Prop} {sl st:List (Nat×HV)} {nx:Nat} {vs:List HV} {us:List Upd} {side:Prop} (h0:aB (fun j=>au j st) (rs.map fun r=>au r sl)=(vs,us,side)) (hs:side) (hK:K (bG vs)) :
  hx P (.c .ret::k) (finish rs K) ⟨sl,st,nx⟩:=by
 refine Yx ?_
 have e:(fun j=>au j st)=St.M ⟨sl,st,nx⟩:=rfl
 rw [e] at h0
 unfold finish
 simp only
 rw [h0]
 exact ⟨hs,hK⟩
attribute [irreducible] hx
mutual
def HV.ids:HV->List Nat
 | .ref i _ _ _ _=>[i]
 | .pref i _ _=>[i]
 | .mref i _=>[i]
 | .agg cs=>Y7 cs
 | .tup cs=>Y7 cs
 | .fn _ cs=>Y7 cs
 | _=>[]
def Y7:List HV->List Nat
 | []=>[]
 | v::r=>v.ids++Y7 r
end
mutual
def HV.ren (h:Nat->Option Nat):HV->HV
 | .ref i p sz o n=>match h i with|some k=>.ref k p sz o n|none=>.dead
 | .pref i p o=>match h i with|some k=>.pref k p o|none=>.dead
 | .mref i p=>match h i with|some k=>.mref k p|none=>.dead
 | .agg cs=>.agg (UN h cs)
 | .tup cs=>.tup (UN h cs)
 | .fn f cs=>.fn f (UN h cs)
 | v=>v
def UN (h:Nat->Option Nat):List HV->List HV
 | []=>[]
 | v::r=>v.ren h::UN h r
end
def BG (acc:List Nat):List Nat->List Nat
 | []=>acc
 | x::r=>if x∈acc then BG acc r else BG (acc++[x]) r
def idx:List Nat->Nat->Option Nat
 | [],_=>none
 | x::r,i=>if x=i then some 0 else (idx r i).map (·+1)
def aaF (keep:List Nat):List (Nat×HV)->List (Nat×HV)
 | []=>[]
 | (k,v)::r=>if k∈keep then (k,v)::aaF keep r else aaF keep r
def Dw:List (Nat×HV)->List Nat
 | []=>[]
 | (_,v)::r=>v.ids++Dw r
def ZB (h:Nat->Option Nat):List (Nat×HV)->List (Nat×HV)
 | []=>[]
 | (k,v)::r=>(k,v.ren h)::ZB h r
def vZ (ids:List Nat) (sl:List (Nat×HV)) (s:St):St:=⟨ZB (idx ids) sl,ay 0 (ids.map fun i=>au i s.st),ids.length⟩
theorem JS (l acc:List Nat) (h:acc.Nodup):(BG acc l).Nodup:=by
 induction l generalizing acc with
 | nil=>exact h
 | cons x r ih =>
  simp only [BG]
  split
  ·exact ih acc h
  ·rename_i hx
   refine ih _ ?_
   rw [zl008]
   exact ⟨h,by simp,fun a ha b hb e=>by simp at hb;subst hb;subst e;exact hx ha⟩
theorem Lr {l:List Nat} {i k:Nat} (h:idx l i=some k):l[k]?=some i:=by
 induction l generalizing k with
 | nil=>simp [idx] at h
 | cons x r ih =>
  simp only [idx] at h
  split at h
  ·rename_i hx;cases h;simp [hx]
  ·simp only [MX] at h
   obtain ⟨j,hj,rfl⟩:=h
   simpa using ih hj
theorem UU (h:Nat->Option Nat) (t:Nat) (l:List (Nat×HV)):au t (ZB h l)=(au t l).ren h:=by
 induction l with
 | nil=>rfl
 | cons p r ih =>
  obtain ⟨k,v⟩:=p
  simp only [ZB,au,ih]
  split<;>rfl
theorem OW.ren {F:Nat->Prop} {h:Hp} {R R':HV->Value->Prop} {vs rvs fs} (g:Nat->Option Nat) (o:OW F h R vs rvs fs) (hfs:fs=[]) (hl:∀v rv,R v rv->(∃id,dW v=some id)) (hr:∀v rv id k,R v rv->dW v=some id->g id=some k->R' (v.ren g) rv):OW F h R' (UN g vs) rvs []:=by
 induction o with
 | nil=>exact .nil
 | @leaf R v rv r rr fs a b c d e f gg _ ih =>
  have ih':=ih hfs hl hr
  obtain ⟨id,hid⟩:=hl _ _ gg
  cases hg:g id with
  | none =>
   have:v.ren g=.dead:=by cases v<;>simp [dW] at hid<;>subst hid<;>simp [HV.ren,hg]
   simp only [UN,this]
   exact .dead ih'
  | some k =>
   have h1:=hr _ _ id k gg hid hg
   have:(dW (v.ren g)).isSome=true:=by cases v<;>simp [dW] at hid<;>subst hid<;>simp [HV.ren,hg,dW]
   exact (dE this h1).cons1 ih'
 | int _ ih=>exact .int (ih hfs hl hr)
 | bool _ ih=>exact .bool (ih hfs hl hr)
 | str _ ih=>exact .str (ih hfs hl hr)
 | nils _ ih=>exact .nils (ih hfs hl hr)
 | nilp _ ih=>exact .nilp (ih hfs hl hr)
 | nilf _ ih=>exact .nilf (ih hfs hl hr)
 | dead _ ih=>exact .dead (ih hfs hl hr)
 | sl0 _ ih=>exact .sl0 (ih hfs hl hr)
 | sl a b c d e _ _ ih=>exact .sl a b c d e (ih hfs hl hr)
 | osl0 _ ih=>exact .osl0 (ih hfs hl hr)
 | osl=>simp at hfs
 | ptr a b c d _ _ ih=>exact .ptr a b c d (ih hfs hl hr)
 | optr=>simp at hfs
 | nilm _ ih=>exact .nilm (ih hfs hl hr)
 | rmap a b c d _ _ ih=>exact .rmap a b c d (ih hfs hl hr)
 | omap=>simp at hfs
 | oitr=>simp at hfs
 | agg _ _ ih1 ih2 =>
  obtain ⟨rfl,rfl⟩:_=[]/\_=[]:=by simpa using hfs
  exact .agg (ih1 rfl hl hr) (ih2 rfl hl hr)
 | tup _ _ ih1 ih2 =>
  obtain ⟨rfl,rfl⟩:_=[]/\_=[]:=by simpa using hfs
  exact .tup (ih1 rfl hl hr) (ih2 rfl hl hr)
 | fn _ _ ih1 ih2 =>
  obtain ⟨rfl,rfl⟩:_=[]/\_=[]:=by simpa using hfs
  exact .fn (ih1 rfl hl hr) (ih2 rfl hl hr)
theorem Weak.normW (sl':List (Nat×HV)) (s:St) (hsl:∀t,au t sl'=au t s.sl\/au t sl'=.dead):Weak s (vZ (BG [] (Dw sl')) sl' s):=by
 intro E a w ⟨loc,fp,hr⟩
 have hnd:=JS (Dw sl') [] (by simp)
 generalize BG [] (Dw sl')=ids at hnd ⊢
 let loc':Nat->Value:=fun k=>match ids[k]? with|some i=>loc i|none=>undef
 let fp':Nat->List Nat:=fun k=>match ids[k]? with|some i=>fp i|none=>[]
 have hM:∀k,(vZ ids sl' s).M k=match ids[k]? with|some i=>s.M i|none=>.dead:=by
  intro k
  show au k (ay 0 _)=_
  rw [qg]
  simp only [dS,if_true,Nat.sub_zero,List.getD,fZ]
  cases ids[k]?<;>rfl
 have hsub:∀k b,b∈fp' k->∃i,ids[k]?=some i/\b∈fp i:=fun k b hb=>by
  simp only [fp'] at hb
  cases h:ids[k]? with
  | none=>simp [h] at hb
  | some i=>simp only [h] at hb;exact ⟨i,rfl,hb⟩
 have hfz:∀b,frz E fp w b->frz E fp' w b:=fun b ⟨h1,h2,h3⟩=>⟨h1,h2,fun k hb=>by obtain ⟨i,_,h⟩:=hsub k b hb;exact h3 i h⟩
 have hF:∀b,frz E fp w b->frz E fp' w b/\w.heap[b]?=w.heap[b]?:=fun b hb=>⟨hfz b hb,rfl⟩
 refine ⟨loc',fp',⟨hr.below,hr.base,hr.size,?_,?_,?_,?_,?_,?_,?_,hr.defers⟩⟩
 ·intro k hk
  rw [hM] at hk ⊢
  simp only [loc',fp']
  cases h:ids[k]? with
  | none=>simp [h] at hk
  | some i =>
   simp only [h] at hk ⊢
   exact (hr.tree i hk).stable (fun _ _=>rfl) hF (fun _ _ h=>h)
 ·intro k hk
  rw [hM] at hk
  simp only [fp']
  cases h:ids[k]? with
  | none=>rfl
  | some i=>simp only [h] at hk ⊢;exact hr.gone i hk
 ·intro k hk
  rw [hM]
  have:ids[k]?=none:=qo hk
  rw [this]
 ·intro k
  simp only [fp']
  cases h:ids[k]? with
  | none=>simp
  | some i=>simp only;exact hr.nodup i
 ·intro j k hjk b hb hb'
  obtain ⟨i1,h1,h2⟩:=hsub j b hb
  obtain ⟨i2,h3,h4⟩:=hsub k b hb'
  have:i1≠i2:=fun e=>by
   subst e
   exact hjk (by
    have l1:=(zl026.1 h1).1
    exact (List.getElem?_inj l1 hnd).1 (h1.trans h3.symm))
  exact hr.apart i1 i2 this b h2 h4
 ·intro k b hb
  obtain ⟨i,_,h⟩:=hsub k b hb
  exact hr.fresh i b h
 ·intro t
  have hS:(vZ ids sl' s).S t=(au t sl').ren (idx ids):=UU _ _ _
  rw [hS]
  rcases hsl t with h|h<;>rw [h]
  ·have:=(hr.slots t).ren (R':=RefR ids.length (vZ ids sl' s).M loc' w.heap) (idx ids) rfl (fun v rv h=>by obtain ⟨id,h1,_⟩:=h.isRef;exact ⟨id,h1⟩) (by
    intro v rv id k hv hid hk
    have hget:=Lr hk
    have hlt:=(zl026.1 hget).1
    have e1:(vZ ids sl' s).M k=s.M id:=by rw [hM,hget]
    have e2:loc' k=loc id:=by simp only [loc',hget]
    cases v<;>simp only [dW,bT,reduceCtorEq] at hid
    ·subst hid
     obtain ⟨a1,a2,a3,a4,a5⟩:=hv
     simp only [HV.ren,hk]
     exact ⟨hlt,a2,a3,by rw [e1];exact a4,by rw [e1,e2];exact a5⟩
    ·subst hid
     obtain ⟨a1,a2,a3,a4⟩:=hv
     simp only [HV.ren,hk]
     exact ⟨hlt,a2,a3,by rw [e1,e2];exact a4⟩
    ·subst hid
     obtain ⟨a1,a2,a3,a4,a5⟩:=hv
     simp only [HV.ren,hk]
     exact ⟨hlt,a2,a3,by rw [e1];exact a4,by rw [e1,e2];exact a5⟩)
   exact this.stable (by simp) hF (fun _ _ h=>h)
  ·exact .dead .nil
def Na (keep:List Nat) (sl:List (Nat×HV)):List (Nat×HV):=keep.map fun k=>(k,au k sl)
def norm2 (keep:List Nat) (s:St):St:=vZ (BG [] (Dw (Na keep s.sl))) (Na keep s.sl) s
theorem PQ (keep:List Nat) (t:Nat) (l:List (Nat×HV)):au t (Na keep l)=au t l\/au t (Na keep l)=.dead:=by
 induction keep with
 | nil=>exact .inr rfl
 | cons k r ih =>
  simp only [Na,dP,au]
  split
  ·rename_i h;subst h;exact .inl rfl
  ·exact ih
theorem Weak.norm2 (keep:List Nat) (s:St):Weak s (norm2 keep s):=Weak.normW _ s fun t=>PQ keep t s.sl
def freeze (id:Nat) (s:St):St:=⟨s.sl.map fun p=>(p.1,p.2.thaw (fun i=>i==id) s.M),Ii id .dead s.st,s.nx⟩
theorem Iz (T:Nat->Bool) (L:Lk) (t:Nat) (l:List (Nat×HV)):au t (l.map fun p=>(p.1,p.2.thaw T L))=(au t l).thaw T L:=by
 induction l with
 | nil=>rfl
 | cons p r ih =>
  obtain ⟨k,v⟩:=p
  simp only [dP,au,ih]
  split<;>rfl
theorem Weak.freeze (id:Nat) (s:St):Weak s (freeze id s):=by
 intro E a w ⟨loc,fp,hr⟩
 have hM:∀k,(HL.freeze id s).M k=if id=k then .dead else s.M k:=fun k=>iq id k .dead s.st
 let fp':Nat->List Nat:=fun k=>if k=id then [] else fp k
 have hfz:∀b,frz E fp w b->frz E fp' w b:=fun b ⟨h1,h2,h3⟩=>⟨h1,h2,fun k=>by simp only [fp'];split;simp;exact h3 k⟩
 have hF:∀b,frz E fp w b->frz E fp' w b/\w.heap[b]?=w.heap[b]?:=fun b hb=>⟨hfz b hb,rfl⟩
 have hid:∀b∈fp id,frz E fp' w b:=fun b hb=>⟨hr.lt id b hb,fun h=>by rcases hr.fresh id b hb with h1|h1;omega;exact .inr h1,fun k=>by
  simp only [fp']
  split
  ·simp
  ·rename_i hk;exact hr.apart id k (Ne.symm hk) b hb⟩
 refine ⟨loc,fp',⟨hr.below,hr.base,hr.size,?_,?_,?_,?_,?_,?_,?_,hr.defers⟩⟩
 ·intro k hk
  rw [hM] at hk ⊢
  by_cases h:id=k
  ·rw [if_pos h] at hk;exact absurd rfl hk
  ·rw [if_neg h] at hk ⊢
   simp only [fp',if_neg (Ne.symm h)]
   exact (hr.tree k hk).stable (fun _ _=>rfl) hF (fun _ _ h=>h)
 ·intro k hk
  rw [hM] at hk
  by_cases h:id=k
  ·simp [fp',h]
  ·rw [if_neg h] at hk
   simp only [fp',if_neg (Ne.symm h)]
   exact hr.gone k hk
 ·intro k hk
  rw [hM]
  split
  ·rfl
  ·exact hr.new k hk
 ·intro k;simp only [fp'];split;simp;exact hr.nodup k
 ·intro j k hjk b hb hb'
  simp only [fp'] at hb hb'
  split at hb
  ·simp at hb
  ·split at hb'
   ·simp at hb'
   ·exact hr.apart j k hjk b hb hb'
 ·intro k b hb
  simp only [fp'] at hb
  split at hb
  ·simp at hb
  ·exact hr.fresh k b hb
 ·intro t
  have hS:(HL.freeze id s).S t=(s.S t).thaw (fun i=>i==id) s.M:=Iz _ _ _ _
  rw [hS]
  exact OW.thaw hr (fun i=>i==id) hfz (fun i hi b hb=>by simp at hi;subst hi;exact hid b hb) (fun v rv i hv hi hT=>by
   simp at hT
   refine hv.kind hi (aY _) fun p _ _=>.inr ⟨by rw [hM,if_neg (fun e=>hT e.symm)],rfl⟩) (hr.slots t) rfl rfl
mutual
def HV.unb (id:Nat):HV->HV
 | .ref i p sz o n=>if i=id then (match p with|[0]=>.ref i [] sz o n|_=>.dead) else .ref i p sz o n
 | .pref i p o=>if i=id then .dead else .pref i p o
 | .mref i p=>if i=id then .dead else .mref i p
 | .agg cs=>.agg (Nj id cs)
 | .tup cs=>.tup (Nj id cs)
 | .fn f cap=>.fn f (Nj id cap)
 | v=>v
def Nj (id:Nat):List HV->List HV
 | []=>[]
 | v::r=>v.unb id::Nj id r
end
theorem OW.unb {F:Nat->Prop} {h:Hp} {R:HV->Value->Prop} {vs rvs fs} (id:Nat) (o:OW F h R vs rvs fs):∀ {R':HV->Value->Prop},(∀i p sz o n rv,R (.ref i p sz o n) rv->(i≠id->R' (.ref i p sz o n) rv)/\(i=id->p=[0]->R' (.ref i [] sz o n) rv)) ->
  ((∀i p o rv,R (.pref i p o) rv->i≠id->R' (.pref i p o) rv)/\(∀i p rv,R (.mref i p) rv->i≠id->R' (.mref i p) rv))->OW F h R' (Nj id vs) rvs fs:=by
 induction o with
 | nil=>intro R' _ _;exact .nil
 | @leaf R v rv r rr fs a b c d e f g _ ih =>
  intro R' h1 h2
  have ih:=ih h1 h2
  cases v<;>simp [fH] at a b c d e f
  ·rename_i i p sz o n
   simp only [Nj,HV.unb]
   split
   ·rename_i hi
    split
    ·exact .leaf rfl (by simp) (by simp) (by simp) (by simp) (by simp) ((h1 _ _ _ _ _ _ g).2 hi rfl) ih
    ·exact .dead ih
   ·rename_i hi
    exact .leaf rfl (by simp) (by simp) (by simp) (by simp) (by simp) ((h1 _ _ _ _ _ _ g).1 hi) ih
  ·rename_i i p o
   simp only [Nj,HV.unb]
   split
   ·exact .dead ih
   ·rename_i hi
    exact .leaf rfl (by simp) (by simp) (by simp) (by simp) (by simp) (h2.1 _ _ _ _ g hi) ih
  ·exact .dead ih
  ·rename_i i p
   simp only [Nj,HV.unb]
   split
   ·exact .dead ih
   ·rename_i hi
    exact .leaf rfl (by simp) (by simp) (by simp) (by simp) (by simp) (h2.2 _ _ _ g hi) ih
  ·exact absurd rfl (c _ _ _ _ rfl rfl rfl)
 | int _ ih=>intro R' h1 h2;exact .int (ih h1 h2)
 | bool _ ih=>intro R' h1 h2;exact .bool (ih h1 h2)
 | str _ ih=>intro R' h1 h2;exact .str (ih h1 h2)
 | nils _ ih=>intro R' h1 h2;exact .nils (ih h1 h2)
 | nilp _ ih=>intro R' h1 h2;exact .nilp (ih h1 h2)
 | nilf _ ih=>intro R' h1 h2;exact .nilf (ih h1 h2)
 | dead _ ih=>intro R' h1 h2;exact .dead (ih h1 h2)
 | sl0 _ ih=>intro R' h1 h2;exact .sl0 (ih h1 h2)
 | sl a b c d e _ _ ih=>intro R' h1 h2;exact .sl a b c d e (ih h1 h2)
 | osl0 _ ih=>intro R' h1 h2;exact .osl0 (ih h1 h2)
 | osl a b c d e f g _ _ ih=>intro R' h1 h2;exact .osl a b c d e f g (ih h1 h2)
 | ptr a b c d _ _ ih=>intro R' h1 h2;exact .ptr a b c d (ih h1 h2)
 | optr a b _ _ ih=>intro R' h1 h2;exact .optr a b (ih h1 h2)
 | nilm _ ih=>intro R' h1 h2;exact .nilm (ih h1 h2)
 | rmap a b c d _ _ ih=>intro R' h1 h2;exact .rmap a b c d (ih h1 h2)
 | omap a b c _ _ ih=>intro R' h1 h2;exact .omap a b c (ih h1 h2)
 | oitr a _ ih=>intro R' h1 h2;exact .oitr a (ih h1 h2)
 | agg _ _ ih1 ih2=>intro R' h1 h2;exact .agg (ih1 h1 h2) (ih2 h1 h2)
 | tup _ _ ih1 ih2=>intro R' h1 h2;exact .tup (ih1 h1 h2) (ih2 h1 h2)
 | fn _ _ ih1 ih2=>intro R' h1 h2;exact .fn (ih1 h1 h2) (ih2 h1 h2)
def afB (id:Nat) (s:St):St:=match s.M id with
 | .optr [.osl sz n cs]=>⟨s.sl.map fun p=>(p.1,p.2.unb id),Ii id (.osl sz n cs) s.st,s.nx⟩
 | _=>s
def detach (t:Nat) (s:St):St :=
 match s.S t with
 | .ref id [j] sz 0 k=>match s.M id with
  | .optr cs=>match cs.getD j .dead with
   | .osl sz' m ds=>if sz'=sz/\k<=m/\bC ds=true/\0<sz then
     ⟨(t,.ref s.nx [] sz 0 k)::s.sl.map fun p=>(p.1,p.2.kill id 0),(s.nx,.osl sz k (ds.take (k*sz)))::(id,.optr (cs.set j .dead))::s.st,s.nx+1⟩ else s
   | _=>s
  | _=>s
 | _=>s
theorem Weak.detach (t:Nat) (s:St):Weak s (detach t s):=by
 unfold HL.detach
 split
 rotate_left
 ·exact Weak.refl s
 rename_i id j sz k hst
 split
 rotate_left
 ·exact Weak.refl s
 rename_i cs hid
 split
 rotate_left
 ·exact Weak.refl s
 rename_i sz' m ds hch
 split
 rotate_left
 ·exact Weak.refl s
 rename_i hcond
 obtain ⟨rfl,hkm,hfl,hsz⟩:=hcond
 intro E a w ⟨loc,fp,hr⟩
 have hidN:id<s.nx:=by
  rcases dX id s.nx with h|h
  ·exact h
  ·have:=hr.new id h;rw [hid] at this;cases this
 have hn:ax (s.M id) [j]=.osl sz' m ds:=by rw [hid];simpa [ax] using hch
 obtain ⟨rv',f1,f',f2,e1,e2,o2,e4,_,rep⟩:=(hr.tree id (by rw [hid];simp)).focus (p:=[j]) (by simp) (by rw [hn];trivial)
 rw [hn] at o2
 have hsl:=hr.slots t
 rw [hst] at hsl
 have hR:=pF hsl
 simp only [RefR] at hR
 obtain ⟨r1,r2,r3,r4,r5⟩:=hR
 obtain ⟨_,a2,cap,a3,a4⟩:=r5 _ _ _ hn
 have hrv:rv'=.slice a2 m cap:=by rw [e1] at a3;exact ET a3
 generalize hrt:a.tmps.getD t undef=rt at a4 hsl r3
 obtain ⟨fn,hfn,hnew⟩:∃fn:List Nat,(∀b∈fn,b∈f')/\fn.Nodup/\OW (frz E fp w) w.heap dG [.osl sz' k (ds.take (k*sz'))] [rt] fn:=by
  rw [hrv] at o2
  rcases a4 with ⟨rfl,a',h⟩|⟨g,o,c,h1,h2,h3,h4,h5⟩
  ·refine ⟨[],by simp,.nil,?_⟩
   rw [h]
   simpa using OW.osl0 (F:=frz E fp w) (h:=w.heap) (R:=dG) (sz:=sz') (a:=a') .nil
  ·subst h1
   have hc:c=cap:=Nat.eq_of_mul_eq_mul_right hsz (by simpa using h3)
   subst hc
   rw [Nat.add_zero] at h2
   subst h2
   generalize hff:f'=ff at o2
   cases o2 with
   | leaf _ h'=>exact absurd rfl (h' _ _ _)
   | osl0 _ =>
    obtain rfl:k=0:=by omega
    refine ⟨[],by simp,.nil,?_⟩
    simpa using OW.osl0 (F:=frz E fp w) (h:=w.heap) (R:=dG) (sz:=sz') (a:=some ⟨g,o,none⟩) .nil
   | @osl _ _ _ _ _ _ _ cur e rvs ff1 _ _ fs' b1 b2 b3 b4 b5 b6 b7 b8 =>
    cases b8
    refine ⟨[g],by simp,by simp,?_⟩
    have hflat:=b7.flatL hfl
    have hlen:=hflat.length
    have htk:OW (frz E fp w) w.heap dG (ds.take (k*sz')) (rvs.take (k*sz')) []:=by
     have h1:(ds.take (k*sz'))++ds.drop (k*sz')=ds:=zg _ _
     have h2:=hflat
     rw [<- h1] at h2
     obtain ⟨ru,rw',g1,g2,q1,q2,q3,q4,q5⟩:=h2.splitAt
     obtain ⟨rfl,rfl⟩:g1=[]/\g2=[]:=by simpa using q2.symm
     have:rvs.take (k*sz')=ru:=by
      rw [q1,Ic (by rw [q3,eu];rw [b2];have:=EK sz' hkm;omega)]
      rw [kC (by rw [q3,eu];omega)]
     rw [this];exact q4
    have:=OW.osl (F:=frz E fp w) (h:=w.heap) (R:=dG) (sz:=sz') (n:=k) (cs:=ds.take (k*sz')) (g:=g) (off:=o) (cap:=c) (cur:=cur) (e:=e) (rvs:=rvs.take (k*sz')) (f1:=[]) (r:=[]) (rr:=[]) (fs:=[]) b1
     (by rw [eu,b2];have:=EK sz' hkm;omega)
     (by
      rw [b3,eu,b2,FV]) b4 h4 b6 htk .nil
    simpa using this
 obtain ⟨hnd',hnew⟩:=hnew
 have hndid:=hr.nodup id
 rw [e2] at hndid
 have hdis:∀b∈f',b ∉ f1++f2:=fun b hb hb2=>by
  rw [zl008] at hndid
  rcases zl002.1 hb2 with h|h
  ·exact (zl008.1 hndid.1).2.2 b h b hb rfl
  ·exact hndid.2.2 b (zl002.2 (.inr hb)) b h rfl
 have hsub:∀b∈f1++f2,b∈fp id:=fun b hb=>by
  rw [e2]
  rcases zl002.1 hb with h|h<;>simp [h]
 have hfp':∀b∈f',b∈fp id:=fun b hb=>by rw [e2];simp [hb]
 obtain ⟨hk1,hk2⟩:=hr.kill id 0
 let st':Lk:=fun i=>if i=s.nx then .osl sz' k (ds.take (k*sz')) else if i=id then .optr (cs.set j .dead) else s.M i
 have main:=hk1.step (fun v=>∀i p,(∃sz o n,v=.ref i p sz o n)\/(∃o,v=.pref i p o)\/v=.mref i p->¬ (i=id/\0<p.length)) (fun t=>hk2 t) (fun i=>i=id\/i=s.nx) (N':=s.nx+1) (st':=st') (loc':=fun i=>if i=s.nx then rt else loc i) (fp':=fun i=>if i=s.nx then fn else if i=id then f1++f2 else fp i) (w':=w) (by omega) (aY _) rfl rfl rfl (fun _ _ _=>rfl) ?_ ?_ ?_ ?_ ?_ ?_ ?_ ?_
 ·refine ⟨fun i=>if i=s.nx then rt else loc i,fun i=>if i=s.nx then fn else if i=id then f1++f2 else fp i,?_⟩
  have hM:(⟨(t,.ref s.nx [] sz' 0 k)::s.sl.map fun p=>(p.1,p.2.kill id 0),(s.nx,.osl sz' k (ds.take (k*sz')))::(id,.optr (cs.set j .dead))::s.st,s.nx+1⟩:St).M=st':=by
   funext i
   show au i (_::_::_)=_
   simp only [au,st']
   by_cases h1:s.nx=i
   ·simp [h1]
   ·have h1':¬ i=s.nx:=fun h=>h1 h.symm
    by_cases h2:id=i
    ·simp [h1,h1',h2]
    ·have h2':¬ i=id:=fun h=>h2 h.symm
     simp only [h1,h1',h2,h2',if_false]
     rfl
  have r:=main.1
  rw [hM]
  refine ⟨r.below,r.base,r.size,r.tree,r.gone,r.new,r.nodup,r.apart,r.fresh,fun t'=>?_,r.defers⟩
  show OW _ _ _ [au t' (_::_)] _ _
  simp only [au]
  by_cases h:t=t'
  ·subst h
   rw [if_pos rfl,hrt]
   refine dE rfl ?_
   simp only [RefR]
   refine ⟨by omega,by simp,r3,by simp [ax,st'],fun sz2 m2 cs2 h=>?_⟩
   simp only [ax,st',if_true,HV.osl.injEq] at h
   obtain ⟨rfl,rfl,rfl⟩:=h
   refine ⟨rfl,?_⟩
   rcases a4 with ⟨rfl,a',h⟩|⟨g,o,c,h1,h2,h3,h4,h5⟩
   ·exact ⟨a',0,by simp [dA,h],.inl ⟨rfl,a',h⟩⟩
   ·exact ⟨some ⟨g,o,none⟩,c,by simp [dA,h2],.inr ⟨g,o,c,rfl,by simpa using h2,by simp,h4,aY _⟩⟩
  ·rw [if_neg h,qc]
   exact r.slots t'
 ·intro i hi
  rw [not_or] at hi
  exact ⟨by simp only [st',hi.1,hi.2,if_false],by simp only [hi.2,if_false],by simp only [hi.1,hi.2,if_false]⟩
 ·intro hfz i hi _
  by_cases h:i=s.nx
  ·subst h
   simp only [st',if_true]
   exact hnew.stable (fun _ _=>rfl) (fun b hb=>⟨(hfz b hb).1,rfl⟩) (fun _ _ h=>h)
  ·obtain rfl:=hi.resolve_right h
   simp only [st',h,if_false,if_true]
   have:=rep _ w.heap .dead [] (fun _ _=>rfl) hfz (.dead .nil)
   rw [hid] at this
   simpa [dh] using this
 ·intro i hi hd
  by_cases h:i=s.nx
  ·subst h;simp [st'] at hd
  ·obtain rfl:=hi.resolve_right h
   simp [st',h] at hd
 ·intro i hi hge
  rcases hi with h|h<;>omega
 ·intro i hi b hb
  right
  refine ⟨id,.inl rfl,?_⟩
  by_cases h:i=s.nx
  ·subst h
   simp only [if_true] at hb
   exact hfp' b (hfn b hb)
  ·obtain rfl:=hi.resolve_right h
   simp only [h,if_false,if_true] at hb
   exact hsub b hb
 ·intro i hi
  by_cases h:i=s.nx
  ·subst h;simpa using hnd'
  ·obtain rfl:=hi.resolve_right h
   simp only [h,if_false,if_true]
   rw [zl008] at hndid ⊢
   refine ⟨(zl008.1 hndid.1).1,hndid.2.1,fun x hx y hy=>hndid.2.2 x (zl002.2 (.inl hx)) y hy⟩
 ·intro i j' hi hj hij b hb hb2
  by_cases h:i=s.nx
  ·subst h
   obtain rfl:=hj.resolve_right (fun h=>hij h.symm)
   have hne:¬ j'=s.nx:=fun h=>hij h.symm
   simp only [if_true,hne,if_false] at hb hb2
   exact hdis b (hfn b hb) hb2
  ·obtain rfl:=hi.resolve_right h
   obtain rfl:=hj.resolve_left (fun h=>hij h.symm)
   simp only [h,if_false,if_true] at hb hb2
   exact hdis b (hfn b hb2) hb
 ·intro v rv i hv hG hi hx
  obtain ⟨i',h1,h2⟩:=hv.isRef
  rw [hi] at h1;cases h1
  have hne:¬ i=s.nx:=by omega
  obtain rfl:=hx.resolve_right hne
  cases v<;>simp only [dW] at hi<;>cases hi
  ·rename_i pth sz2 o n
   have hp:pth=[]:=by
    cases pth with
    | nil=>rfl
    | cons x xs=>exact absurd ⟨rfl,by simp⟩ (hG i _ (.inl ⟨_,_,_,rfl⟩))
   subst hp
   simp only [RefR] at hv
   exact absurd (by rw [hid];rfl) (hv.2.2.2.1 cs)
  ·rename_i pth o
   have hp:pth=[]:=by
    cases pth with
    | nil=>rfl
    | cons x xs=>exact absurd ⟨rfl,by simp⟩ (hG i _ (.inr (.inl ⟨_,rfl⟩)))
   subst hp
   simp only [RefR] at hv ⊢
   refine ⟨by omega,hv.2.1,hv.2.2.1,fun _=>?_⟩
   obtain ⟨rvn,g,o',b1,b2,b3⟩:=hv.2.2.2 (by rw [hid];trivial)
   refine ⟨rvn,g,o',?_,b2,b3⟩
   simp only [hne,if_false]
   exact b1
  ·rename_i pth
   have hp:pth=[]:=by
    cases pth with
    | nil=>rfl
    | cons x xs=>exact absurd ⟨rfl,by simp⟩ (hG i _ (.inr (.inr rfl)))
   subst hp
   simp only [RefR] at hv
   exact absurd (by rw [hid];rfl) (hv.2.2.2.1 cs)
def shrink (t:Nat) (s:St):St :=
 match s.S t with
 | .ref id [] sz 0 k=>match s.M id with
  | .osl sz' m ds=>if sz'=sz/\k<=m/\bC ds=true/\0<sz then
    ⟨(t,.ref s.nx [] sz 0 k)::s.sl,(s.nx,.osl sz k (ds.take (k*sz)))::(id,.dead)::s.st,s.nx+1⟩ else s
  | _=>s
 | _=>s
theorem Weak.shrink (t:Nat) (s:St):Weak s (shrink t s):=by
 unfold HL.shrink
 split
 rotate_left
 ·exact Weak.refl s
 rename_i id sz k hst
 split
 rotate_left
 ·exact Weak.refl s
 rename_i sz' m ds hid
 split
 rotate_left
 ·exact Weak.refl s
 rename_i hcond
 obtain ⟨rfl,hkm,hfl,hsz⟩:=hcond
 intro E a w ⟨loc,fp,hr⟩
 have hidN:id<s.nx:=by
  rcases dX id s.nx with h|h
  ·exact h
  ·have:=hr.new id h;rw [hid] at this;cases this
 have o2:=hr.tree id (by rw [hid];simp)
 rw [hid] at o2
 obtain ⟨rv',hrv0⟩:∃rv',loc id=rv':=⟨_,rfl⟩
 obtain ⟨f',hf'⟩:∃f',fp id=f':=⟨_,rfl⟩
 rw [hrv0,hf'] at o2
 have hsl:=hr.slots t
 rw [hst] at hsl
 have hR:=pF hsl
 simp only [RefR] at hR
 obtain ⟨r1,r2,r3,r4,r5⟩:=hR
 obtain ⟨_,a2,cap,a3,a4⟩:=r5 sz' m ds (by rw [hid];rfl)
 have hrv:rv'=.slice a2 m cap:=by simp only [dA,bT] at a3;rw [<- hrv0,a3]
 generalize hrt:a.tmps.getD t undef=rt at a4 hsl r3
 obtain ⟨fn,hfn,hnew⟩:∃fn:List Nat,(∀b∈fn,b∈f')/\fn.Nodup/\OW (frz E fp w) w.heap dG [.osl sz' k (ds.take (k*sz'))] [rt] fn:=by
  rw [hrv] at o2
  rcases a4 with ⟨rfl,a',h⟩|⟨g,o,c,h1,h2,h3,h4,h5⟩
  ·refine ⟨[],by simp,.nil,?_⟩
   rw [h]
   simpa using OW.osl0 (F:=frz E fp w) (h:=w.heap) (R:=dG) (sz:=sz') (a:=a') .nil
  ·subst h1
   have hc:c=cap:=Nat.eq_of_mul_eq_mul_right hsz (by simpa using h3)
   subst hc
   rw [Nat.add_zero] at h2
   subst h2
   generalize hff:f'=ff at o2
   cases o2 with
   | leaf _ h'=>exact absurd rfl (h' _ _ _)
   | osl0 _ =>
    obtain rfl:k=0:=by omega
    refine ⟨[],by simp,.nil,?_⟩
    simpa using OW.osl0 (F:=frz E fp w) (h:=w.heap) (R:=dG) (sz:=sz') (a:=some ⟨g,o,none⟩) .nil
   | @osl _ _ _ _ _ _ _ cur e rvs ff1 _ _ fs' b1 b2 b3 b4 b5 b6 b7 b8 =>
    cases b8
    refine ⟨[g],by simp,by simp,?_⟩
    have hflat:=b7.flatL hfl
    have hlen:=hflat.length
    have htk:OW (frz E fp w) w.heap dG (ds.take (k*sz')) (rvs.take (k*sz')) []:=by
     have h1:(ds.take (k*sz'))++ds.drop (k*sz')=ds:=zg _ _
     have h2:=hflat
     rw [<- h1] at h2
     obtain ⟨ru,rw',g1,g2,q1,q2,q3,q4,q5⟩:=h2.splitAt
     obtain ⟨rfl,rfl⟩:g1=[]/\g2=[]:=by simpa using q2.symm
     have:rvs.take (k*sz')=ru:=by
      rw [q1,Ic (by rw [q3,eu];rw [b2];have:=EK sz' hkm;omega)]
      rw [kC (by rw [q3,eu];omega)]
     rw [this];exact q4
    have:=OW.osl (F:=frz E fp w) (h:=w.heap) (R:=dG) (sz:=sz') (n:=k) (cs:=ds.take (k*sz')) (g:=g) (off:=o) (cap:=c) (cur:=cur) (e:=e) (rvs:=rvs.take (k*sz')) (f1:=[]) (r:=[]) (rr:=[]) (fs:=[]) b1
     (by rw [eu,b2];have:=EK sz' hkm;omega)
     (by
      rw [b3,eu,b2,FV]) b4 h4 b6 htk .nil
    simpa using this
 obtain ⟨hnd',hnew⟩:=hnew
 have hfp':∀b∈f',b∈fp id:=fun b hb=>by rw [hf'];exact hb
 let st':Lk:=fun i=>if i=s.nx then .osl sz' k (ds.take (k*sz')) else if i=id then .dead else s.M i
 have main:=hr.step (fun _=>True) hr.all (fun i=>i=id\/i=s.nx) (N':=s.nx+1) (st':=st') (loc':=fun i=>if i=s.nx then rt else loc i) (fp':=fun i=>if i=s.nx then fn else if i=id then [] else fp i) (w':=w) (by omega) (aY _) rfl rfl rfl (fun _ _ _=>rfl) ?_ ?_ ?_ ?_ ?_ ?_ ?_ ?_
 ·refine ⟨fun i=>if i=s.nx then rt else loc i,fun i=>if i=s.nx then fn else if i=id then [] else fp i,?_⟩
  have hM:(⟨(t,.ref s.nx [] sz' 0 k)::s.sl,(s.nx,.osl sz' k (ds.take (k*sz')))::(id,.dead)::s.st,s.nx+1⟩:St).M=st':=by
   funext i
   show au i (_::_::_)=_
   simp only [au,st']
   by_cases h1:s.nx=i
   ·simp [h1]
   ·have h1':¬ i=s.nx:=fun h=>h1 h.symm
    by_cases h2:id=i
    ·simp [h1,h1',h2]
    ·have h2':¬ i=id:=fun h=>h2 h.symm
     simp only [h1,h1',h2,h2',if_false]
     rfl
  have r:=main.1
  rw [hM]
  refine ⟨r.below,r.base,r.size,r.tree,r.gone,r.new,r.nodup,r.apart,r.fresh,fun t'=>?_,r.defers⟩
  show OW _ _ _ [au t' (_::_)] _ _
  simp only [au]
  by_cases h:t=t'
  ·subst h
   rw [if_pos rfl,hrt]
   refine dE rfl ?_
   simp only [RefR]
   refine ⟨by omega,by simp,r3,by simp [ax,st'],fun sz2 m2 cs2 h=>?_⟩
   simp only [ax,st',if_true,HV.osl.injEq] at h
   obtain ⟨rfl,rfl,rfl⟩:=h
   refine ⟨rfl,?_⟩
   rcases a4 with ⟨rfl,a',h⟩|⟨g,o,c,h1,h2,h3,h4,h5⟩
   ·exact ⟨a',0,by simp [dA,h],.inl ⟨rfl,a',h⟩⟩
   ·exact ⟨some ⟨g,o,none⟩,c,by simp [dA,h2],.inr ⟨g,o,c,rfl,by simpa using h2,by simp,h4,aY _⟩⟩
  ·rw [if_neg h]
   exact r.slots t'
 ·intro i hi
  rw [not_or] at hi
  exact ⟨by simp only [st',hi.1,hi.2,if_false],by simp only [hi.2,if_false],by simp only [hi.1,hi.2,if_false]⟩
 ·intro hfz i hi hd
  by_cases h:i=s.nx
  ·subst h
   simp only [st',if_true]
   exact hnew.stable (fun _ _=>rfl) (fun b hb=>⟨(hfz b hb).1,rfl⟩) (fun _ _ h=>h)
  ·obtain rfl:=hi.resolve_right h
   simp [st',h] at hd
 ·intro i hi hd
  by_cases h:i=s.nx
  ·subst h;simp [st'] at hd
  ·obtain rfl:=hi.resolve_right h
   simp only [h,if_false,if_true]
 ·intro i hi hge
  rcases hi with h|h<;>omega
 ·intro i hi b hb
  right
  refine ⟨id,.inl rfl,?_⟩
  by_cases h:i=s.nx
  ·subst h
   simp only [if_true] at hb
   exact hfp' b (hfn b hb)
  ·obtain rfl:=hi.resolve_right h
   simp only [h,if_false,if_true] at hb
   cases hb
 ·intro i hi
  by_cases h:i=s.nx
  ·subst h;simpa using hnd'
  ·obtain rfl:=hi.resolve_right h
   simp only [h,if_false,if_true]
   exact .nil
 ·intro i j' hi hj hij b hb hb2
  by_cases h:i=s.nx
  ·subst h
   obtain rfl:=hj.resolve_right (fun h=>hij h.symm)
   have hne:¬ j'=s.nx:=fun h=>hij h.symm
   simp only [if_true,hne,if_false] at hb2
   cases hb2
  ·obtain rfl:=hi.resolve_right h
   simp only [h,if_false,if_true] at hb
   cases hb
 ·intro v rv i hv _ hi hx
  obtain ⟨i',h1,h2⟩:=hv.isRef
  rw [hi] at h1;cases h1
  have hne:¬ i=s.nx:=by omega
  obtain rfl:=hx.resolve_right hne
  have hd:st' i=.dead:=by simp [st',hne]
  have nd:∀q:List Nat,ax .dead q=.dead:=fun q=>by cases q<;>rfl
  cases v<;>simp only [dW] at hi<;>cases hi
  ·simp only [RefR] at hv ⊢
   refine ⟨by omega,hv.2.1,hv.2.2.1,fun cs=>?_,fun sz2 m2 cs h=>?_⟩
   ·rw [hd,nd];simp
   ·rw [hd,nd] at h;cases h
  ·simp only [RefR] at hv ⊢
   refine ⟨by omega,hv.2.1,hv.2.2.1,fun h=>?_⟩
   rw [hd,nd] at h;exact h.elim
  ·simp only [RefR] at hv ⊢
   refine ⟨by omega,hv.2.1,hv.2.2.1,fun cs=>?_,fun h=>?_⟩
   ·rw [hd,nd];simp
   ·rw [hd,nd] at h;exact h.elim
end Go.HL
end
section
namespace Go.HL
def ints (l:List Int):List HV:=l.map (.int .i64)
def bools (l:List Bool):List HV:=l.map .bool
def I (l:List Int):HV:=.sl l.length (ints l)
def Bl (l:List Bool):HV:=.sl l.length (bools l)
def trip (l:List (Int×Int×Int)):List HV:=l.flatMap fun e=>[.int .i64 e.1,.int .i64 e.2.1,.int .i64 e.2.2]
def T3 (l:List (Int×Int×Int)):HV:=.sl l.length (trip l)
section
variable (l l':List Int) (b b':List Bool) (e e':List (Int×Int×Int))
theorem ints_len:(ints l).length=l.length:=by simp [ints]
theorem bools_len:(bools b).length=b.length:=by simp [bools]
theorem ints_app:ints l++ints l'=ints (l++l'):=by simp [ints]
theorem bools_app:bools b++bools b'=bools (b++b'):=by simp [bools]
theorem ints_snoc (x:Int):ints l++[.int .i64 x]=ints (l++[x]):=by simp [ints]
theorem bools_snoc (x:Bool):bools b++[.bool x]=bools (b++[x]):=by simp [bools]
theorem ints_strip:stripL (ints l)=ints l:=by induction l with|nil=>rfl|cons x r ih=>simpa [ints,stripL,HV.strip] using ih
theorem bools_strip:stripL (bools b)=bools b:=by induction b with|nil=>rfl|cons x r ih=>simpa [bools,stripL,HV.strip] using ih
theorem Bz:stripL (trip e)=trip e:=by induction e with|nil=>rfl|cons x r ih=>simpa [trip,stripL,HV.strip] using ih
theorem ints_noRd:dU (ints l)=true:=by induction l with|nil=>rfl|cons x r ih=>simpa [ints,dU,HV.noRd] using ih
theorem bools_noRd:dU (bools b)=true:=by induction b with|nil=>rfl|cons x r ih=>simpa [bools,dU,HV.noRd] using ih
theorem wG:dU (trip e)=true:=by induction e with|nil=>rfl|cons x r ih=>simpa [trip,dU,HV.noRd] using ih
theorem ints_flat:bC (ints l)=true:=by simp [ints,bC,fH]
theorem bools_flat:bC (bools b)=true:=by simp [bools,bC,fH]
theorem ints_cell:gW (ints l)=true:=by simp [ints,gW,cellV]
theorem bools_cell:gW (bools b)=true:=by simp [bools,gW,cellV]
theorem dw (cs:List HV) {n:Nat} (h:n=cs.length):win cs 0 n=cs:=by simp [win,h]
theorem ints_get {i:Nat} (h:i<l.length):(ints l).getD i .dead=.int .i64 (l.getD i 0):=by simp [ints,h]
theorem bools_get {i:Nat} (h:i<b.length):(bools b).getD i .dead=.bool (b.getD i false):=by simp [bools,h]
theorem ints_set {i:Nat} (x:Int):(ints l).set i (.int .i64 x)=ints (l.set i x):=by simp [ints]
theorem bools_set {i:Nat} (x:Bool):(bools b).set i (.bool x)=bools (b.set i x):=by simp [bools]
end
section
variable {P:Program} {k:List HI} {Q:HE->St->Prop} {s:St} {C:CallSpec} {all r:List HOper} {i:Nat} {dd:Option Nat} {op:HOp HX}
theorem acM {j d:Nat} {want:Bool} (hd:(all[j]?).bind (·.dst)=some d) (hb:au d s.sl=.bool want) (h:hx P (.o C all (⟨dd,op,none⟩::r) i::k) Q s):hx P (.o C all (⟨dd,op,some (j,want)⟩::r) i::k) Q s :=
 LH rfl hd hb (fun _=>h) fun h=>absurd rfl h
theorem aaN {j d:Nat} {want:Bool} (hd:(all[j]?).bind (·.dst)=some d) (hb:au d s.sl=.bool (!want)) (h:hx P (.o C all r (i+1)::k) Q (s.put dd (.tup []))):hx P (.o C all (⟨dd,op,some (j,want)⟩::r) i::k) Q s :=
 LH rfl hd hb (fun h=>by cases want<;>cases h) fun _=>h
end
end Go.HL
end
section
namespace Go.HL
open Go.RowKit
def JY (masks:List Nat) (all:List HOper) (i:Nat) (o:HOper) (us:List Upd) (S:Lk) (log:l7):Bool :=
 log.all fun q=>rq masks q.1 i || rq masks i q.1 || (match all[q.1]? with|some o'=>!U6 o' o|none=>true) || ((vP o S us).all (fun x=>!q.2.2.contains x)&&q.2.1.all (fun x=>!(qH o S).contains x))
theorem FD {masks:List Nat} {all:List HOper} {i:Nat} {o:HOper} {us:List Upd} {v:HV} {S:Lk} {log:l7} (h:JY masks all i o us S log=true):∀q∈log,chk (fun _=>false) masks all i o (v,us) S q:=by
 intro q hq b1 b2 o' ho' hs
 have:=zl016.1 h q hq
 rw [Gf] at hs
 rw [b1,b2,ho'] at this
 simp only [hs,Bool.not_true,Bool.or_self,vY,aZ,zl016,zu,List.contains_eq_mem,decide_eq_false_iff_not] at this
 exact ⟨this.1,this.2⟩
def WC (C:yH) (s:St) (i:Nat) (o:HOper) (K:List Upd->HV->Prop):Prop :=
 match o.op.map (ev s.sl) with
 | .call f xs=>C f (cZ bM (fun i=>au i s.st) xs) fun r=>(aO xs || r.noRd)=true/\(unpack (s.nx+stride*i) r).2.2<=s.nx+stride*(i+1)/\K (unpack (s.nx+stride*i) r).2.1 (unpack (s.nx+stride*i) r).1
 | .callv (.fn f cap) xs=>C f (cZ bM (fun i=>au i s.st) (xs++cap)) fun r=>(aO (xs++cap) || r.noRd)=true/\(unpack (s.nx+stride*i) r).2.2<=s.nx+stride*(i+1)/\K (unpack (s.nx+stride*i) r).2.1 (unpack (s.nx+stride*i) r).1
 | op=>(ah (fun i=>au i s.st) (s.nx+stride*i) op).2.2/\K (ah (fun i=>au i s.st) (s.nx+stride*i) op).2.1 (ah (fun i=>au i s.st) (s.nx+stride*i) op).1
def yZ (C:yH) (masks:List Nat) (all:List HOper):List HOper->Nat->l7->(St->Prop)->St->Prop
 | [],_,_,K,s=>K s
 | o::r,i,log,K,s =>
  match o.guard with
  | none=>WC C s i o fun us v=>JY masks all i o us s.S log=true/\yZ C masks all r (i+1) ((i,vP o s.S us,qH o s.S)::log) K ((s.upd us).put o.dst v)
  | some (j,want)=>match ((all[j]?).bind (·.dst)).map (fun d=>au d s.sl) with
   | some (.bool b)=>(b=want->WC C s i o fun us v=>JY masks all i o us s.S log=true/\yZ C masks all r (i+1) ((i,vP o s.S us,qH o s.S)::log) K ((s.upd us).put o.dst v)) /\
     (b≠want->JY masks all i o [] s.S log=true/\yZ C masks all r (i+1) ((i,[],qH o s.S)::log) K (s.put o.dst (.tup [])))
   | some (.tup [])=>JY masks all i o [] s.S log=true/\yZ C masks all r (i+1) ((i,[],qH o s.S)::log) K (s.put o.dst (.tup []))
   | _=>False
theorem Vr {P:Program} {D:FuncId->List HV->HV->Prop} {ops:List HOper} {masks:List Nat} {nx:Nat} {K:St->Prop}:∀ (rest:List HOper) (i:Nat) (log:l7) (s:St),ops.drop i=rest->s.nx=nx->yZ (CS P D).ap masks ops rest i log K s ->
  dr (HT2 P) (DS.of D) ops masks nx (fun S M=>∃s':St,s'.S=S/\s'.M=M/\s'.nx=nx/\K s') (List.range' i rest.length) log s.S s.M:=by
 intro rest
 induction rest with
 | nil=>intro i log s _ hnx h;exact ⟨s,rfl,rfl,hnx,h⟩
 | cons o rest ih =>
  intro i log s hdrop hnx h
  have hoi:ops[i]?=some o:=by
   have:=congrArg (fun l:List HOper=>l[0]?) hdrop
   simpa using this
  have hdrop':ops.drop (i+1)=rest:=by
   have:=congrArg (List.drop 1) hdrop
   simpa [sV,lK] using this
  simp only [List.length_cons,GR]
  have stepS:∀ (us:List Upd) (v:HV),((s.upd us).put o.dst v).S=nZ o (v,us) s.S:=fun us v=>by rw [St.put_S,St.upd_S];rfl
  have stepM:∀ (us:List Upd) (v:HV),((s.upd us).put o.dst v).M=yE (v,us) s.M:=fun us v=>by rw [St.put_M,St.upd_M];rfl
  have next:∀ (us:List Upd) (v:HV) ent,yZ (CS P D).ap masks ops rest (i+1) (ent::log) K ((s.upd us).put o.dst v)->dr (HT2 P) (DS.of D) ops masks nx (fun S M=>∃s':St,s'.S=S/\s'.M=M/\s'.nx=nx/\K s') (List.range' (i+1) rest.length) (ent::log) (nZ o (v,us) s.S) (yE (v,us) s.M):=by
   intro us v ent h'
   have:=ih (i+1) (ent::log) ((s.upd us).put o.dst v) hdrop' (by rw [St.put_nx,St.upd_nx];exact hnx) h'
   rw [stepS,stepM] at this
   exact this
  have hstr:s.nx+stride*(i+1)=nx+stride*i+stride:=by rw [hnx];unfold stride;omega
  have run:gd ops o s.S=some true->(WC (CS P D).ap s i o fun us v=>JY masks ops i o us s.S log=true/\yZ (CS P D).ap masks ops rest (i+1) ((i,vP o s.S us,qH o s.S)::log) K ((s.upd us).put o.dst v))->∃o',ops[i]?=some o'/\eH (HT2 P) (DS.of D) ops (nx+stride*i) o' s.S s.M/\(∃e,iG (DS.of D) ops (nx+stride*i) o' s.S s.M e)/\∀e,iG (DS.of D) ops (nx+stride*i) o' s.S s.M e->(∀q∈log,chk (fun _=>false) masks ops i o' e s.S q)/\dr (HT2 P) (DS.of D) ops masks nx (fun S M=>∃s':St,s'.S=S/\s'.M=M/\s'.nx=nx/\K s') (List.range' (i+1) rest.length) ((i,vP o' s.S e.2,qH o' s.S)::log) (nZ o' e s.S) (yE e s.M):=by
   intro hg hh
   refine ⟨o,hoi,?_⟩
   unfold eH iG
   rw [hg]
   simp only
   have hM:(fun i=>au i s.st)=s.M:=rfl
   unfold WC at hh
   rw [jd,hM,hstr,hnx] at hh
   have callc:∀ (f:FuncId) (args xs:List HV),(CS P D f args fun r=>(aO xs || r.noRd)=true/\(unpack (nx+stride*i) r).2.2<=nx+stride*i+stride/\JY masks ops i o (unpack (nx+stride*i) r).2.1 s.S log=true/\yZ (CS P D).ap masks ops rest (i+1) ((i,vP o s.S (unpack (nx+stride*i) r).2.1,qH o s.S)::log) K ((s.upd (unpack (nx+stride*i) r).2.1).put o.dst (unpack (nx+stride*i) r).1)) ->
     (HT P f args (D f args)/\∀r,D f args r->r.deep=[]->(aO xs || r.noRd)=true/\(unpack (nx+stride*i) r).2.2<=nx+stride*i+stride)/\(∃e:HV×List Upd,∃r,D f args r/\r.deep=[]/\e=((unpack (nx+stride*i) r).1,(unpack (nx+stride*i) r).2.1)) /\
     ∀e:HV×List Upd,(∃r,D f args r/\r.deep=[]/\e=((unpack (nx+stride*i) r).1,(unpack (nx+stride*i) r).2.1))->(∀q∈log,chk (fun _=>false) masks ops i o e s.S q)/\dr (HT2 P) (DS.of D) ops masks nx (fun S M=>∃s':St,s'.S=S/\s'.M=M/\s'.nx=nx/\K s') (List.range' (i+1) rest.length) ((i,vP o s.S e.2,qH o s.S)::log) (nZ o e s.S) (yE e s.M):=by
    rintro f args xs ⟨c1,⟨r0,c2,c3⟩,c4⟩
    refine ⟨⟨c1,fun r a b=>⟨(c4 r a b).1,(c4 r a b).2.1⟩⟩,⟨_,r0,c2,c3,rfl⟩,?_⟩
    rintro e ⟨r,d1,d2,rfl⟩
    exact ⟨FD (c4 r d1 d2).2.2.1,next _ _ _ (c4 r d1 d2).2.2.2⟩
   split at hh
   ·rename_i f xs heq
    rw [heq]
    simp only [kT,nY]
    simp only [if_neg (show ¬ (DS.of D).own f=true from fun h=>Bool.noConfusion h)]
    exact callc f _ xs hh
   ·rename_i f cap xs heq
    rw [heq]
    exact callc f _ (xs++cap) hh
   ·rename_i op h1 h2
    have e1:kT (HT2 P) (DS.of D) s.M (nx+stride*i) (o.op.map (bU s.S))=(ah s.M (nx+stride*i) (o.op.map (bU s.S))).2.2:=by
     unfold kT;split
     ·rename_i f xs heq;exact absurd heq (h1 f xs)
     ·rename_i f cap xs heq;exact absurd heq (h2 f cap xs)
     ·rfl
    have e2:∀e,nY (DS.of D) s.M (nx+stride*i) e (o.op.map (bU s.S))=(e=((ah s.M (nx+stride*i) (o.op.map (bU s.S))).1,(ah s.M (nx+stride*i) (o.op.map (bU s.S))).2.1)):=fun e=>by
     unfold nY;split
     ·rename_i f xs heq;exact absurd heq (h1 f xs)
     ·rename_i f cap xs heq;exact absurd heq (h2 f cap xs)
     ·rfl
    rw [e1]
    simp only [e2]
    refine ⟨hh.1,⟨_,rfl⟩,?_⟩
    rintro e rfl
    exact ⟨FD hh.2.1,next _ _ _ hh.2.2⟩
  simp only [yZ] at h
  cases hg:o.guard with
  | none =>
   rw [hg] at h
   exact run (by unfold gd;rw [hg]) h
  | some jw =>
   obtain ⟨j,want⟩:=jw
   rw [hg] at h
   simp only at h
   cases hd:(ops[j]?).bind (·.dst) with
   | none=>rw [hd] at h;exact h.elim
   | some d =>
    rw [hd] at h
    simp only [gV] at h
    generalize hv:au d s.sl=v at h
    cases v with
    | bool b =>
     simp only at h
     have hv':s.S d=.bool b:=hv
     have hgd:gd ops o s.S=some (b==want):=by unfold gd;rw [hg];simp only [hd,gV,hv']
     by_cases hbw:b=want
     ·exact run (by rw [hgd];simp [hbw]) (h.1 hbw)
     ·refine ⟨o,hoi,?_⟩
      have:(b==want)=false:=by simpa using hbw
      unfold eH iG
      rw [hgd,this]
      simp only
      refine ⟨trivial,⟨_,rfl⟩,?_⟩
      rintro e rfl
      exact ⟨FD (h.2 hbw).1,next [] (.tup []) _ (h.2 hbw).2⟩
    | tup cs =>
     cases cs with
     | cons _ _=>exact h.elim
     | nil =>
      simp only at h
      have hv':s.S d=.tup []:=hv
      have hgd:gd ops o s.S=some false:=by unfold gd;rw [hg];simp only [hd,gV,hv']
      refine ⟨o,hoi,?_⟩
      unfold eH iG
      rw [hgd]
      simp only
      refine ⟨trivial,⟨_,rfl⟩,?_⟩
      rintro e rfl
      exact ⟨FD h.1,next [] (.tup []) _ h.2⟩
    | _=>exact h.elim
inductive RK where
 | t (i:Nat)
 | c (a:Nat) (agg:Bool) (sz:Nat)
def zh (L:Lk) (sl:List (Nat×HV)):RK->HV×List Upd×Prop
 | .t i=>takeD L (au i sl)
 | .c a agg sz=>match takeC L (au a sl) with
  | (.optr cs,us,side)=>(if agg then .agg cs else cs.getD 0 .dead,us,side/\cs.length=sz/\(agg=false->sz=1))
  | _=>(.dead,[],False)
def kU (L:Lk) (sl:List (Nat×HV)):List RK->List HV×List Upd×Prop
 | []=>([],[],True)
 | r::rs =>
  let x:=zh L sl r
  let y:=kU (L.upd x.2.1) sl rs
  (x.1::y.1,x.2.1++y.2.1,x.2.2/\y.2.2)
def KU (rs:List RK) (K:HV->Prop):HE->St->Prop:=fun e s =>
 match e with
 | .exit _=>False
 | _=>(kU s.M s.sl rs).2.2/\K (bG (kU s.M s.sl rs).1)
def rE (P:Program):List ResultVar->Option (List RK)
 | []=>some []
 | .tmp t::r=>(rE P r).map (RK.t t::·)
 | .cell a t::r=>match P.underlying t,P.info? t with
  | some d,some i=>(rE P r).map (RK.c a (gp d) i.size::·)
  | _,_=>none
theorem Lt {P:Program} {fn:Func} {tmps:Array Value} {w:World} {vs:List Value} (h1:(List.mapM (MC tmps) fn.results.toList).run P w=.ok vs w) :
  (results fn tmps).run P w=.ok (valOf vs) w:=by
 unfold results
 rw [Array.mapM_eq_mapM_toList]
 simp only [map_eq_pure_bind,Sem.run_bind,Sem.run_pure]
 change ((Sem.run P (List.mapM (MC tmps) fn.results.toList) w).andThen _).andThen _=_
 rw [h1]
 simp only [Result.andThen_ok]
 congr 1
 match vs with
 | []=>rw [dif_neg (by simp)];rfl
 | [v]=>rw [dif_pos (by simp)];rfl
 | _::_::_=>rw [dif_neg (by simp)];rfl
section
variable {P:Program} {E:Fr} {N:Nat} {sl:List (Nat×HV)} {st:Lk} {loc:Nat->Value} {fp:Nat->List Nat} {a:Act} {w:World}
theorem ML {t:TypeId} {d:TypeDesc} {i:TypeInfo} (hd:P.underlying t=some d) (hi:P.info? t=some i) {g:Nat} {cur:Array Value} {e:TypeId} {fr:Nat×Nat} (hg:w.heap[g]?=some (.cells cur e fr)) {cs:List HV} {F:Nat->Prop} {f1:List Nat} (o:OW F w.heap dG cs cur.toList f1) (hl:cs.length=i.size) (h1:gp d=false->i.size=1) :
  ∃rv,(loadVar t ⟨g,0,none⟩).run P w=.ok rv w/\OW F w.heap dG [if gp d then .agg cs else cs.getD 0 .dead] [rv] f1:=by
 have cell:∀j rv,cur.toList[j]?=some rv->w.cell? ⟨g,0+j,none⟩=some rv:=by
  intro j rv hj
  rw [jK];simp only [cellAt,hg];simpa using hj
 cases hA:gp d
 ·have hs:=h1 hA
  have hl2:=o.length
  match cs,cur,o,hl,hl2,cell with
  | [c],⟨[v]⟩,o,_,_,cell =>
   have:=cell 0 v rfl
   refine ⟨v,?_,by simpa using o⟩
   simp [loadVar,pU hd,hA,run_load,this,go_sem]
  | [],_,_,hl,_,_=>simp at hl;omega
  | _::_::_,_,_,hl,_,_=>simp at hl;omega
  | [c],⟨[]⟩,_,_,hl2,_=>simp at hl2
  | [c],⟨_::_::_⟩,_,_,hl2,_=>simp at hl2
 ·refine ⟨.agg cur.toList.toArray,?_,by simpa using OW.agg o .nil⟩
  have rowD:d.isRow=gp d:=by cases d<;>rfl
  exact run_loadVar_mid w g 0 t cur.toList d (fun j v hj=>cell j v hj) hd (rowD.trans hA) (by rw [hi];simp only [gV];rw [<- hl,o.length])
theorem PV (hr:Rel E N (fun t=>au t sl) st loc fp a w) {x:ResultVar} {rk:RK} {L:Lk} (hL:∀id,L id=st id\/L id=.dead) (hx:rE P [x]=some [rk]) (hvc:(zh L sl rk).2.2) :
  ∃rv ff ids,(MC a.tmps x).run P w=.ok rv w/\TakenD E fp w st L [(zh L sl rk).1] [rv] (zh L sl rk).2.1 ff ids:=by
 cases x with
 | tmp t =>
  simp only [rE,gV,bT,vk,and_true] at hx
  subst hx
  simp only [zh] at hvc ⊢
  have hv:=hr.vals [Operand.tmp t]
  obtain ⟨ff,ids,T⟩:=pK hr (vs:=[au t sl]) (rvs:=[a.tmps.getD t undef]) hv rfl rfl L hL (by simp only [aB];exact ⟨hvc,trivial⟩)
  simp only [aB,List.append_nil] at T
  exact ⟨_,ff,ids,rfl,T⟩
 | cell s t =>
  simp only [rE] at hx
  cases hd:P.underlying t with
  | none=>simp [hd] at hx
  | some d =>
   cases hi:P.info? t with
   | none=>simp [hd,hi] at hx
   | some i =>
    simp only [hd,hi,gV,bT,vk,and_true] at hx
    subst hx
    simp only [zh] at hvc ⊢
    have hv:=hr.vals [Operand.tmp s]
    have hv':V E N st loc fp w (au s sl) (a.tmps.getD s undef):=hv
    generalize hq:takeC L (au s sl)=q at *
    obtain ⟨v,us,side⟩:=q
    cases v<;>simp only at hvc ⊢<;>(first|exact hvc.elim|skip)
    rename_i cs
    obtain ⟨hside,hl,h1⟩:=hvc
    obtain ⟨ff,ids,T⟩:=xy hr hL hv' (by rw [hq];exact hside)
    rw [hq] at T
    simp only at T
    have hown:=T.own
    have hnd:=T.nodup
    have hfr:=T.from_
    generalize hrv:a.tmps.getD s undef=rv at *
    cases hown with
    | leaf _ _ h _ _ _ _ _=>exact absurd rfl (h.1 _)
    | @optr _ _ g cur e f1 _ _ _ hg o rest =>
     cases rest
     obtain ⟨rv,hrun,ho⟩:=ML hd hi hg o hl h1
     refine ⟨rv,f1,ids,?_,⟨ho,?_,T.alive,?_,T.upd⟩⟩
     ·simp only [MC,hrv,asAddr,Sem.run_bind,Sem.run_pure,Result.andThen_ok]
      exact hrun
     ·simp at hnd;exact hnd.2
     ·intro b hb
      exact hfr b (by simp [hb])
theorem OJ (hr:Rel E N (fun t=>au t sl) st loc fp a w):∀ (xs:List ResultVar) (rs:List RK) (L:Lk),(∀id,L id=st id\/L id=.dead)->rE P xs=some rs->(kU L sl rs).2.2 ->
  ∃rvs ff ids,(xs.mapM (MC a.tmps)).run P w=.ok rvs w/\TakenD E fp w st L (kU L sl rs).1 rvs (kU L sl rs).2.1 ff ids:=by
 intro xs
 induction xs with
 | nil =>
  intro rs L _ h _
  simp only [rE,bT] at h
  subst h
  exact ⟨[],[],[],by simp,.nil,by simp,by simp,by simp,by simp [kU,Lk.upd]⟩
 | cons x xs ih =>
  intro rs L hL h hvc
  obtain ⟨rk,rs',h1,h2,rfl⟩:∃rk rs',rE P [x]=some [rk]/\rE P xs=some rs'/\rs=rk::rs':=by
   cases x with
   | tmp t =>
    simp only [rE,MX] at h
    obtain ⟨rs',h2,rfl⟩:=h
    exact ⟨_,rs',by simp [rE],h2,rfl⟩
   | cell s t =>
    simp only [rE] at h
    split at h
    ·rename_i d i hd hi
     simp only [MX] at h
     obtain ⟨rs',h2,rfl⟩:=h
     exact ⟨_,rs',by simp [rE,hd,hi],h2,rfl⟩
    ·cases h
  simp only [kU] at hvc ⊢
  obtain ⟨rv,ff,ids,hrun,T⟩:=PV hr hL h1 hvc.1
  obtain ⟨rvs,ff2,ids2,hrun2,T2⟩:=ih rs' (L.upd (zh L sl rk).2.1) (fun id=>by
   rw [T.upd];split
   ·exact .inr rfl
   ·exact hL id) h2 hvc.2
  refine ⟨rv::rvs,_,_,?_,T.app hr T2⟩
  rw [List.mapM_cons]
  simp only [Sem.run_bind,Sem.run_pure,hrun,Result.andThen_ok,hrun2]
end
theorem HT.enterC {P:Program} (hm:P.follows .mixedOrders=true) {f:FuncId} {fn:Func} {c:Code} {rs:List RK} (hf:P.funcs[f]?=some fn) (hb:fn.body=some c) (hname:(fn.name == "runtime.NumGoroutine")=false) (hrs:rE P fn.results.toList=some rs)
  {args:List HV} (hlen:args.length<=fn.ntmps) {K:HV->Prop} (s0:St) (hw0:Weak ⟨ay 0 args,[],0⟩ s0) (h:hcode P (gm P (SL fn.ntmps) c) (KU rs K) s0):HT P f args K:=by
 refine ⟨⟨fn,hf,by simp [hb],hname⟩,?_⟩
 intro w rargs F hF hargs
 refine calls_of_wp hf hb ?_
 have hl:=hargs.length
 let E:Fr:=⟨w.heap.size,F,w,SL fn.ntmps,fun _=>False,fun _=>undef⟩
 have hr:SRel E 0 ⟨ay 0 args,[],0⟩ { tmps:=rargs.toArray++Array.replicate (fn.ntmps - rargs.toArray.size) undef,defers:=[] } w:=by
  refine ⟨fun _=>undef,fun _=>[],⟨BelowG.refl _ _ _,aY _,Ej rargs fn.ntmps (by omega),fun id h=>absurd rfl h,fun _ _=>rfl,fun _ _=>rfl,by simp,by simp,by simp,fun t=>?_,rfl⟩⟩
  have hS:(⟨ay 0 args,[],0⟩:St).S t=args.getD t .dead:=by
   show au t (ay 0 args)=_
   rw [qg];simp
  rw [hS]
  by_cases ht:t<args.length
  ·obtain ⟨rv,f1,f2,f3,h1,h2,h3,_⟩:=hargs.at t ht
   have h4:f2=[]:=by simp at h2;exact h2.2.1
   subst h4
   have h5:(rargs.toArray++Array.replicate (fn.ntmps - rargs.toArray.size) undef).getD t undef=rv:=by
    have:t<rargs.length:=by omega
    rw [jC,Sj (by simpa using this)]
    simp [h1]
   simp only [h5]
   exact h3.stable (by simp) (fun b hb=>⟨⟨hF b hb,fun _=>.inl hb,by simp⟩,rfl⟩) (fun _ _ h=>h.elim)
  ·have:args.getD t .dead=.dead:=by simp [List.getD,qo (Nw ht)]
   rw [this];exact .dead .nil
 refine zn (E:=E) hm c (KU rs K) _ s0 _ w (hw0 _ _ _ hr) h ?_
 intro e s' a' w' hr' hq
 obtain ⟨loc,fp,hr1⟩:=hr'
 have fin:(kU s'.M s'.sl rs).2.2/\K (bG (kU s'.M s'.sl rs).1)->a'.defers=[]/\∃v,(results fn a'.tmps).run P w'=.ok v w' /\
   ∃rv res fs,Ending.returned v=.returned rv/\K res/\OW (fun b=>F b\/(w.heap.size<=b/\b<w'.heap.size/\b ∉ fs)) w'.heap dG [res] [rv] fs/\fs.Nodup/\(∀b∈fs,w.heap.size<=b)/\Below w.heap.size w w':=by
  rintro ⟨hvc,hK⟩
  obtain ⟨rvs,ff,ids,hrun,T⟩:=OJ (sl:=s'.sl) hr1 fn.results.toList rs s'.M (fun _=>.inl rfl) hrs hvc
  refine ⟨hr1.defers,_,Lt hrun,_,bG (kU s'.M s'.sl rs).1,ff,rfl,hK,?_,T.nodup,?_,⟨hr1.below.os,hr1.below.tape,hr1.below.output,hr1.below.size,fun k hk=>hr1.below.block k hk (fun h=>(h:False))⟩⟩
  ·have o2:OW (fun b=>F b\/(w.heap.size<=b/\b<w'.heap.size/\b ∉ ff)) w'.heap dG (kU s'.M s'.sl rs).1 rvs ff:=by
    refine T.own.stable (fun _ _=>rfl) (fun b hb=>⟨?_,rfl⟩) (fun _ _ h=>h)
    by_cases hlt:b<w.heap.size
    ·exact .inl ((hb.2.1 hlt).resolve_right fun h=>(h:False))
    ·refine .inr ⟨by omega,hb.1,fun h=>?_⟩
     obtain ⟨id,_,h2⟩:=T.from_ b h
     exact hb.2.2 id h2
   exact o2.tupOf_
  ·intro b hb
   obtain ⟨id,_,h2⟩:=T.from_ b hb
   exact (hr1.fresh id b h2).resolve_right fun h=>(h:False)
 cases e with
 | normal=>exact fin hq
 | ret=>exact fin hq
 | exit i=>exact hq.elim
def iZ (P:Program) (f:FuncId):Option (HCode×List RK×Nat) :=
 match P.funcs[f]? with
 | some fn=>match fn.body,rE P fn.results.toList with
  | some c,some rs=>if fn.name == "runtime.NumGoroutine" then none else some (gm P (SL fn.ntmps) c,rs,fn.ntmps)
  | _,_=>none
 | none=>none
theorem aa8 {P:Program} {c:HCode} {Q:HE->St->Prop} {s:St} (h:hx P [.c c] Q s):∃s',Weak s s'/\hcode P c Q s':=by
 unfold hx at h
 exact h
def RK.slot:RK->Nat
 | .t i=>i
 | .c a _ _=>a
def unC:RK->HV->Option HV
 | .t _,v=>some v
 | .c _ agg sz,.optr cs=>if cs.length=sz/\(agg=false->sz=1) then some (if agg then .agg cs else cs.getD 0 .dead) else none
 | .c ..,_=>none
def Lp:List RK->List HV->Option (List HV)
 | [],[]=>some []
 | r::rs,v::vs=>match unC r v,Lp rs vs with
  | some x,some xs=>some (x::xs)
  | _,_=>none
 | _,_=>none
def KC (rks:List RK) (K:HV->Prop) (r:HV):Prop:=∃ts vs,r=bG ts/\Lp rks ts=some vs/\K (bG vs)
theorem MB:∀ {rks:List RK} {ts vs:List HV},Lp rks ts=some vs->ts.length=rks.length
 | [],[],_,_=>rfl
 | [],_::_,_,h=>by simp [Lp] at h
 | _::_,[],_,h=>by simp [Lp] at h
 | r::rs,v::ts,vs,h=>by
  simp only [Lp] at h
  split at h
  ·rename_i h1 h2
   simp only [List.length_cons,MB h2]
  ·cases h
theorem Vh {L:Lk} {sl:List (Nat×HV)} {r:RK} {x:HV} (h:unC r (takeD L (au r.slot sl)).1=some x) (hs:(takeD L (au r.slot sl)).2.2):(zh L sl r).1=x/\(zh L sl r).2.1=(takeD L (au r.slot sl)).2.1/\(zh L sl r).2.2:=by
 cases r with
 | t i =>
  simp only [unC,bT] at h
  exact ⟨h,rfl,hs⟩
 | c a agg sz =>
  simp only [RK.slot] at h hs ⊢
  simp only [zh]
  have key:∀cs,(takeD L (au a sl)).1=.optr cs->takeD L (au a sl)=takeC L (au a sl):=by
   intro cs he
   generalize au a sl=v at he ⊢
   cases v<;>first|rfl|(simp [takeD] at he)
  generalize hq:takeD L (au a sl)=q at *
  obtain ⟨v,us,side⟩:=q
  cases v<;>simp only [unC] at h<;>(first|cases h|skip)
  rename_i cs
  have:=key cs rfl
  rw [<- this]
  simp only at hs ⊢
  split at h
  ·rename_i hc
   simp only [bT] at h
   exact ⟨h,trivial,hs,hc⟩
  ·cases h
theorem UR {sl:List (Nat×HV)}:∀ {rks:List RK} {L:Lk} {vs:List HV},Lp rks (aB L (rks.map fun r=>au r.slot sl)).1=some vs->(aB L (rks.map fun r=>au r.slot sl)).2.2->(kU L sl rks).1=vs/\(kU L sl rks).2.2:=by
 intro rks
 induction rks with
 | nil=>intro L vs h _;simp only [uG,aB,Lp,bT] at h;subst h;exact ⟨rfl,trivial⟩
 | cons r rks ih =>
  intro L vs h hs
  simp only [dP,aB,Lp] at h hs
  split at h
  ·rename_i x xs h1 h2
   obtain ⟨a1,a2,a3⟩:=Vh h1 hs.1
   simp only [bT] at h
   subst h
   obtain ⟨b1,b2⟩:=ih h2 hs.2
   simp only [kU]
   rw [a1,a2]
   exact ⟨by rw [b1],a3,b2⟩
  ·cases h
theorem X3 {rks:List RK} {K:HV->Prop} {e:HE} {s:St} (h:finish (rks.map RK.slot) (KC rks K) e s):KU rks K e s:=by
 have key:(aB s.M ((rks.map RK.slot).map fun r=>au r s.sl)).2.2/\KC rks K (bG (aB s.M ((rks.map RK.slot).map fun r=>au r s.sl)).1)->(kU s.M s.sl rks).2.2/\K (bG (kU s.M s.sl rks).1):=by
  rw [kZ]
  rintro ⟨h1,ts,vs,h2,h3,h4⟩
  have hl:=MB h3
  have:=JO (by rw [Bo,List.length_map,hl]) h2
  subst this
  obtain ⟨a,b⟩:=UR h3 h1
  exact ⟨b,by rw [a];exact h4⟩
 cases e with
 | normal=>exact key h
 | ret=>exact key h
 | exit i=>exact h
theorem Zw {P:Program} {c:HCode} {Q Q':HE->St->Prop} {s:St} (h:hx P [.c c] Q s) (hq:∀e s,Q e s->Q' e s):∃s',Weak s s'/\hcode P c Q' s':=by
 obtain ⟨s',hw,h1⟩:=aa8 h
 exact ⟨s',hw,tX h1 hq⟩
theorem HT.ofC {P:Program} (hm:P.follows .mixedOrders=true) {f:FuncId} {c:HCode} {rks:List RK} {T:Nat} (hf:iZ P f=some (c,rks,T)) (rs:List Nat) (hrs:rks.map RK.slot=rs) {args:List HV} (hlen:args.length<=T) {K:HV->Prop} (h:hx P [.c c] (finish rs (KC rks K)) ⟨ay 0 args,[],0⟩):HT P f args K:=by
 subst hrs
 unfold iZ at hf
 cases h1:P.funcs[f]? with
 | none=>simp [h1] at hf
 | some fn =>
  rw [h1] at hf
  simp only at hf
  cases h2:fn.body with
  | none=>simp [h2] at hf
  | some cd =>
   cases h3:rE P fn.results.toList with
   | none=>simp [h2,h3] at hf
   | some rs' =>
    simp only [h2,h3] at hf
    split at hf
    ·cases hf
    ·rename_i hname
     simp only [bT,jg] at hf
     obtain ⟨rfl,rfl,rfl⟩:=hf
     obtain ⟨s',hw,h4⟩:=Zw h fun _ _=>X3
     exact HT.enterC hm h1 h2 (by simpa using hname) h3 hlen s' hw h4
abbrev acI (a:Nat) (b:HOp HX) (c:Option (Nat×Bool)):HOper:=⟨some a,b,c⟩
abbrev adv (a:Nat) (b:HOp HX):HOper:=acI a b none
abbrev OQ (a b:Nat) (c:HX):HOper:=adv a (.mv b c)
abbrev jk (a:List HOper):HCode:=.region none a
abbrev abO (a b c:Nat):HOper:=OQ a b (.t c)
abbrev dn (a:List HOper) (b:HCode):HCode:=.seq (jk a) b
abbrev vJ (a:Nat) (b:HOp HX) (c:List HOper):List HOper:=adv a b::c
abbrev bI (a:Nat) (b:HOp HX) (c:Nat) (d:HOp HX) (e:List HOper):List HOper:=vJ a b (vJ c d e)
abbrev adu (a:Nat) (b:HOp HX) (c:Nat) (d:Bool):HOper:=acI a b (some (c,d))
abbrev afk (a:Nat) (b:HX):HOp HX:=.load false a b
abbrev aek (a b:Nat):HOper:=abO a 0 b
abbrev OZ (a:Int):HV:=.int .i64 a
abbrev acw (a b:Nat):HOp HX:=afk a (.t b)
abbrev pG (a:Int):HX:=.c (OZ a)
abbrev JU (a b:Nat):HOp HX:=.faddr a (.t b)
abbrev OA (a:Nat) (b:HOp HX) (c d e:Nat) (f:List HOper):List HOper:=bI a b c (acw d e) f
abbrev WQ (a:BinOp) (b:Nat) (c:HX):HOp HX:=.bin a (.t b) c
abbrev aee (a:Nat) (b:HOp HX) (c:Nat):HOper:=adu a b c false
abbrev di (a b:Nat) (c:List HOper):List HOper:=aek a b::c
abbrev iF (a:Nat) (b:HOp HX) (c d:Nat) (e:List HOper):List HOper:=vJ a b (di c d e)
abbrev oO (a:BinOp) (b:Nat) (c:Int):HOp HX:=WQ a b (pG c)
abbrev aak (a b:Nat) (c:HX):HOp HX:=.iaddr a (.t b) c
abbrev adK (a:Bool):HX:=.c (.bool a)
abbrev Io (a:Nat) (b c:HCode):HCode:=.cond (.t a) b c
abbrev vG (a:List HOper) (b c:HCode):HCode:=.seq (dn a b) c
abbrev aff (a b c d e f:Nat) (g:List HOper):List HOper:=OA a (JU b c) d e f g
abbrev aem (a b:Nat):HOper:=abO a 1 b
abbrev Eg (a:Bool) (b c:Nat) (d:HX):HOp HX:=.store a b (.t c) d
abbrev Ea (a b c:Nat):HOp HX:=aak a b (.t c)
abbrev aeM (a:Nat) (b:HOp HX) (c:Nat):HOper:=adu a b c true
abbrev aeB (a b:Nat) (c:Int):HOper:=OQ a b (pG c)
abbrev gX (a:List HOper):HCode:=dn a .ret
abbrev yV (a:Nat) (b:HCode):HCode:=.block a (.loop b)
abbrev jv (a:Nat):HOp HX:=.len (.t a)
abbrev BU:HOp HX:=.newz [.int .i64 0,.int .i64 0,.int .i64 0,.int .i64 0]
abbrev ael (a:Nat) (b:HX):HOp HX:=.load true a b
abbrev oP (a:Nat) (b:BinOp) (c:Nat) (d:Int) (e f:Nat) (g:List HOper):List HOper:=iF a (oO b c d) e f g
abbrev ady:HX:=adK false
abbrev gy (a:Nat) (b:HOp HX):List HOper:=vJ a b []
abbrev nV (a:Nat) (b:HCode):HCode:=Io a b .skip
abbrev aed (a:Bool) (b c d:Nat):HOp HX:=Eg a b c (.t d)
abbrev qw (a:BinOp) (b c:Nat):HOp HX:=WQ a b (.t c)
abbrev afh (a:Nat) (b:HCode) (c:Nat):HCode:=Io a b (.exit c)
abbrev aew (a:Nat) (b c:HCode):HCode:=.seq (.block a b) c
abbrev gq (a b:Nat) (c:List HOper):List HOper:=aem a b::c
abbrev lT (a b c d e:Nat) (f:List HOper):List HOper:=aff a b c d 1 e f
abbrev aeP (a:HOp HX) (b:Option (Nat×Bool)):HOper:=⟨none,a,b⟩
abbrev rQ (a:HOp HX):HOper:=aeP a none
abbrev adF (a:Bool) (b c d:Nat):HOper:=rQ (aed a b c d)
abbrev ae4 (a b c d e f g:Nat) (h:List HOper):List HOper:=OA a (Ea b c d) e f g h
abbrev Fb:HX:=adK true
abbrev jF (a:Nat):HOp HX:=acw 1 a
abbrev wK (a b c:Nat):HOper:=adF false a b c
abbrev Nv (a b:Nat):HCode:=afh a .skip b
abbrev acU (a:Nat) (b c:HX):HOp HX:=.pick (.t a) b c
abbrev pW (a:Nat) (b:HOp HX) (c:Nat) (d:List HOper):List HOper:=aee a b c::d
abbrev ku (a:Nat) (b:HOp HX) (c d:Nat) (e:HOp HX) (f:Nat) (g:List HOper):List HOper:=pW a b c (pW d e f g)
abbrev AA (a b:Nat):HOp HX:=ael a (.t b)
abbrev VG (a:Nat) (b:HCode) (c:List HOper):HCode:=aew a b (jk c)
abbrev sN (a b:List HOper) (c d:HCode):HCode:=dn a (vG b c d)
abbrev fK (a b c:Nat) (d:HOp HX) (e:Nat) (f:HOp HX) (g:List HOper):List HOper:=di a b (bI c d e f g)
abbrev vK (a b:Nat):HOp HX:=qw .lss a b
abbrev Fh (a:Nat) (b:Int):HOper:=aeB a 0 b
abbrev BA (a:List (Nat×Nat×HX)):HOp HX:=.bld [.int .i64 0,.int .i64 0] a
abbrev aeN (a b:Nat) (c:Int) (d e:Nat) (f:List HOper):List HOper:=oP a .add b c d e f
abbrev aaS (a b:Nat):HOp HX:=.mv a (.t b)
abbrev DK:HOp HX:=.newz [.int .i64 0,.nils,.nils]
abbrev aa6 (a:Nat):HOper:=Fh a 0
abbrev uw (a:Nat) (b:List HOper):HCode:=nV a (gX b)
abbrev aeE (a b:Nat):HOper:=OQ a b ady
abbrev aeS (a:Nat) (b:HX):HOp HX:=acU a Fb b
abbrev rW (a b c:Nat) (d:HOp HX) (e:List HOper):List HOper:=bI a (jv b) c d e
abbrev vI (a:Nat) (b:HOp HX) (c:HOper) (d:List HOper):List HOper:=vJ a b (c::d)
abbrev jQ (a:Nat) (b:HOp HX) (c:HOper):List HOper:=vI a b c []
abbrev nX (a:Option (List Nat)) (b:List HOper) (c:HCode):HCode:=.seq (.region a b) c
abbrev abT (a b:Nat):HOp HX:=aeS a (.t b)
abbrev jl (a b c d:Nat) (e:List HOper):List HOper:=gq a b (di c d e)
abbrev Gy (a:List (Nat×Nat×HX)):HOp HX:=.bld [.int .i64 0,.nils,.nils] a
abbrev jZ (a b:Nat):List HOper:=gq a b []
abbrev aej (a b:Nat) (c:Int) (d e:Nat):List HOper:=aeN a b c d e []
abbrev H9 (a b c:Nat):List HOper:=gy a (vK b c)
abbrev D5 (a:Nat) (b:HOp HX) (c:Nat) (d:List HOper):List HOper:=aeM a b c::d
abbrev lW (a:Nat) (b:HOp HX) (c d:Nat) (e:HOp HX) (f:Nat) (g:List HOper):List HOper:=D5 a b c (D5 d e f g)
abbrev ae1 (a b c d e f:Nat) (g:List HOper):List HOper:=ae4 a 1 b c d e f g
abbrev iy (a b c d e:Nat) (f:List HOper):List HOper:=ae1 a b c d 1 e f
abbrev adr (a:Nat) (b:HX) (c:List HX):HOp HX:=.call a (b::c)
abbrev uo (a b:Nat) (c:List HX):HOp HX:=adr a (.t b) c
abbrev PE (a:List (Nat×Nat×HX)):HOp HX:=.bld [.int .i64 0,.int .i64 0,.int .i64 0,.int .i64 0] a
abbrev afe (a:Bool) (b c d:Nat) (e:HX):HOp HX:=.app a b c (.t d) e
abbrev Ih (a:Bool) (b c d e:Nat):HOp HX:=afe a b c d (.t e)
abbrev G8 (a:Nat) (b:List HOper) (c:HCode) (d:List HOper):HCode:=VG a (dn b c) d
abbrev Le (a b:Nat) (c:List HOper) (d e:HCode):HCode:=vG (di a b c) d e
abbrev BC:HOp HX:=.newz [.nils,.nils]
abbrev vX (a b:List HOper) (c:Nat) (d e:HCode):HCode:=sN a b (yV c d) e
abbrev XC:HX:=.c .nils
abbrev Xl (a:List HOper) (b c:HCode):HCode:=dn a (.seq b c)
abbrev Bq (a b c d:Nat):HOp HX:=Ih true a b c d
abbrev mg (a b:Nat):List HOper:=di a b []
abbrev YR (a b c d:Nat):List HOper:=aej a b 1 c d
abbrev cu (a b c d:Nat) (e:List HOper):List HOper:=lT a 1 b c d e
abbrev ED (a b:Nat):HOper:=OQ a b XC
abbrev BR (a:Nat):HOper:=aeE a 0
abbrev jb (a:Nat):HOp HX:=aaS 0 a
abbrev nS (a:Nat) (b:HOp HX) (c:Nat) (d:HOp HX) (e:Nat) (f:HOp HX) (g:HOper):List HOper:=bI a b c d (jQ e f g)
abbrev aax (a:Nat) (b:List HX):HOp HX:=.bsl a 1 b
abbrev gZ (a:Nat):HOp HX:=AA 2 a
abbrev Em:HOp HX:=.newz [.int .i64 0,.int .i64 0]
abbrev aaA (a b:Nat):HOp HX:=.ext (.t a) b
abbrev Wi (a:List HOper) (b c:Nat) (d:HCode):HCode:=Xl a (Nv b c) d
abbrev rJ (a b c:Nat):HOper:=adF true a b c
abbrev iU (a b c:Nat) (d:HOp HX) (e:List HOper):List HOper:=bI a (jF b) c d e
abbrev wQ (a b c d e f:Nat):List HOper:=di a b (YR c d e f)
abbrev EP (a b:Nat):HOp HX:=.newv a (.t b)
abbrev jo (a b c d e:Nat) (f:HCode):HCode:=Wi (H9 a b c) d e f
abbrev Ey (a:List HX):HOp HX:=aax 1 a
abbrev ja (a b:Nat) (c:List HOper) (d e:Nat) (f:HCode):HCode:=Le a b c (Nv d e) f
abbrev Ez (a b:Nat):HOper:=abO a 2 b
abbrev zy (a:List (Nat×Nat×HX)):HOp HX:=.bld [.nils,.nils] a
abbrev jA (a b c d e:Nat) (f:List HOper):List HOper:=iF a (abT b c) d e f
abbrev MR (a:Nat) (b:HOp HX) (c d e f:Nat) (g:List HOper):List HOper:=ku a b c d (jF e) f g
abbrev jT (a b:List HOper) (c:HCode):HCode:=dn a (dn b c)
abbrev aaw (a b:Nat) (c:HOper):List HOper:=jQ a (jv b) c
abbrev lM (a b c:Nat):List HOper:=aaw a b (aa6 c)
abbrev acE (a:Nat) (b:HX):HOp HX:=acU a b ady
abbrev kE (a b:Nat):HOp HX:=acE a (.t b)
abbrev lh (a:Nat) (b:Int):HOp HX:=oO .gtr a b
abbrev acQ (a:HX):HOp HX:=.un .not a
abbrev kz (a:Nat):HOp HX:=acQ (.t a)
abbrev jJ (a:Nat) (b:List HOper) (c:HCode) (d e f g:Nat):HCode:=G8 a b c (YR d e f g)
abbrev lY (a b c:Nat):List HOper:=gy a (abT b c)
abbrev jq (a:Nat):HOper:=ED a 1
abbrev kF (a b c d e f g:Nat) (h:List HOper):List HOper:=MR a (JU b c) d e f g h
abbrev adi (a:Nat) (b:List HOper):List HOper:=aa6 a::b
abbrev fJ (a:Nat):List HOper:=adi a []
abbrev acz (a:Nat) (b:List HOper):List HOper:=BR a::b
abbrev oI (a:Nat):List HOper:=acz a []
abbrev kR (a b:Nat):HCode:=uw a (oI b)
abbrev jh (a b:Nat):HOp HX:=uo a b []
abbrev iH (a b:Nat):HOp HX:=Ea 1 a b
abbrev lJ (a b c d:Nat) (e:HOp HX) (f:Nat) (g:List HOper):List HOper:=ku a (jb b) c d e f g
abbrev kG (a b c d e:Nat) (f:HOp HX) (g:List HOper):List HOper:=gq a b (rW c d e f g)
abbrev vz (a:Nat) (b:List HX):List HX:=.t a::b
abbrev o7 (a:Nat):List HX:=vz a []
abbrev jE (a:Nat):HOp HX:=Ey (o7 a)
abbrev iR (a b c:Nat):HOp HX:=uo a b (o7 c)
abbrev mG (a b:Nat):List HX:=vz a (o7 b)
abbrev ql (a b:Nat):HOp HX:=aax a (o7 b)
abbrev gB (a b c d:Nat) (e:List HOper):List HOper:=lT a 0 b c d e
abbrev ji (a b:Nat):HOper:=wK 1 a b
abbrev jy (a:Nat) (b:HOp HX) (c d:Nat):List HOper:=iF a b c d []
abbrev kV (a b c d e f g:Nat) (h:List HOper):List HOper:=di a b (iy c d e f g h)
abbrev Ba (a:Nat):HOp HX:=EP a 0
abbrev o8 (a:Nat) (b:HOp HX) (c d:Nat):List HOper:=vJ a b (jZ c d)
abbrev qB (a:List HOper) (b c:Nat) (d e:HCode):HCode:=vX a (fJ b) c d e
abbrev gY (a b:Nat) (c:List HOper):List HOper:=Ez a b::c
abbrev qy (a b:Nat) (c:List HOper) (d:HCode):HCode:=dn (di a b c) d
abbrev lm (a:Nat):HOp HX:=JU 1 a
abbrev uB (a:Nat) (b:List HX):HOp HX:=.callv (.t a) b
abbrev uf (a b:Nat) (c:List HOper):HCode:=jk (gq a b c)
abbrev oJ (a:Nat) (b:HCode) (c d e f g h:Nat):HCode:=VG a b (wQ c d e f g h)
abbrev oV (a:Nat):HOp HX:=aaA a 0
abbrev um (a:Nat) (b:Int):HOp HX:=oO .lss a b
abbrev oG (a:Nat) (b:HOp HX) (c d e f:Nat) (g:List HOper):List HOper:=lW a b c d (jF e) f g
abbrev ui (a b c:Nat) (d:HOp HX) (e:List HOper):List HOper:=bI a (gZ b) c d e
abbrev zN (a:Int) (b:List HX):List HX:=pG a::b
abbrev pg (a:Int):List HX:=zN a []
abbrev kN (a b c:Nat):HOp HX:=Bq 1 a b c
abbrev tu (a:List HOper) (b:Nat) (c d:HCode):HCode:=vG a (yV b c) d
abbrev tJ (a b c d:Nat):List HOper:=di a b (mg c d)
abbrev oD (a:Nat):HOp HX:=JU 0 a
abbrev qZ (a:Nat):HOp HX:=aaA a 1
abbrev yC (a b:Nat) (c:HOper):List HOper:=jQ a (Ba b) c
abbrev A8 (a:Nat) (b:Int):List HX:=vz a (pg b)
abbrev Gg (a b:Nat) (c:HX):HOp HX:=.mksl a b [.int .i64 0] c
abbrev o9 (a:Nat):HOp HX:=aaS 1 a
abbrev oU (a:Nat):HOp HX:=AA 4 a
abbrev wC (a b:Nat):HOp HX:=qw .neq a b
abbrev wL (a:Nat) (b:Int):HOp HX:=oO .eql a b
abbrev nR (a b:Nat):HOper:=wK 3 a b
abbrev nT (a:Nat) (b:List HOper):List HOper:=gq a 0 b
abbrev AV (a:Nat):HOp HX:=.nilck (.t a)
abbrev qp (a:Nat):HOp HX:=JU 2 a
abbrev oM (a b:Nat):HOp HX:=Ea 4 a b
abbrev acS (a b c:Nat):Nat×Nat×HX:=(a,b,.t c)
abbrev acP (a b:Nat):Nat×Nat×HX:=acS a 1 b
abbrev zB (a b:Nat) (c:List (Nat×Nat×HX)):List (Nat×Nat×HX):=acP a b::c
abbrev EL (a b:Nat):List (Nat×Nat×HX):=zB a b []
abbrev pq (a b c d:Nat):List (Nat×Nat×HX):=zB a b (EL c d)
abbrev rf (a:Nat) (b:HOp HX) (c:Nat) (d:HOp HX) (e:Nat) (f:HOp HX) (g h i:Nat):List HOper:=nS a b c d e f (rJ g h i)
abbrev xR (a b:Nat):HOper:=OQ a b Fb
end Go.HL
end
