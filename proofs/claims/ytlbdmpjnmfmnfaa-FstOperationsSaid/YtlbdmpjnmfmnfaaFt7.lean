import Derived.Test.YtlbdmpjnmfmnfaaHl5
import Derived.Test.YtlbdmpjnmfmnfaaFs7
import Derived.Test.YtlbdmpjnmfmnfaaFsB
import Derived.Test.YtlbdmpjnmfmnfaaHlRo
set_option linter.unusedSimpArgs false
set_option linter.unusedVariables false
set_option maxHeartbeats 8000000
section
namespace Go.HL
open Go.RowKit
section
variable {P:Program} {E:Fr} {N fr:Nat} {sl st:Lk} {loc:Nat->Value} {fp:Nat->List Nat} {a:Act} {w:World}
theorem agA (hr:Rel E N sl st loc fp a w) (hfr:N<=fr) {t:TypeId} {d:TypeDesc} {i:TypeInfo} (hd:P.underlying t=some d) (hi:P.info? t=some i) (hA:iK d=true) {id:Nat} {cs:List HV} {rv:Value}
  (hv:OW (dY E fp w) w.heap (RefR N st loc w.heap) [.pref id [] 0] [rv] []) (hst:st id=.optr cs) (hl:cs.length=i.size) :
  ∃r,(Instr.loadAt t rv).run P w=.ok r w/\fr<=(aW fr cs).2.2/\After E (aW fr cs).2.2 sl st (.put id .dead::(aW fr cs).2.1) (.agg (aW fr cs).1) r a w:=by
 obtain ⟨hid,-,-,hn⟩:=uw hv
 have hdd:st id≠.dead:=by rw [hst];simp
 obtain ⟨rvn,g',o',b1,b2,b3⟩:=hn (by rw [aB,hst];trivial)
 simp only [dF,cO] at b1
 subst b1
 have htr:=hr.tree id hdd
 rw [hst] at htr
 obtain ⟨g,cur,e,f1,hloc,hfp,hg,how⟩:∃g cur e f1,loc id=.pointer (some ⟨g,0,none⟩)/\fp id=g::f1/\w.heap[g]?=some (.cells cur e (0,0))/\OW (dY E fp w) w.heap dG cs cur.toList f1:=by
  generalize loc id=lv at htr
  generalize fp id=fs at htr
  cases htr with
  | leaf _ _ h3=>exact absurd rfl (h3.1 _)
  | @optr _ _ g cur e f1 _ _ _ h1 h2 h3 =>
   cases h3
   exact ⟨g,cur,e,f1,rfl,by simp,h1,h2⟩
 rw [hloc] at b2
 simp only [lq,cO,jR] at b2
 obtain ⟨rfl,rfl⟩:=b2
 subst b3
 obtain ⟨r,hrun,ho⟩:=OD hd hi hg how hl (by rw [hA];simp)
 rw [hA,if_pos rfl] at ho
 have hnd0:=hr.nodup id
 rw [hfp] at hnd0
 have hnd:f1.Nodup:=(zl027.1 hnd0).2
 have hf1:∀b∈f1,b∈fp id:=fun b hb=>by rw [hfp];simp [hb]
 have u:=ho.unpack (fun _ _ h=>h) fr hnd
 have hu:aW fr [.agg cs]=([.agg (aW fr cs).1],(aW fr cs).2.1,(aW fr cs).2.2):=by simp [aW,unpack]
 rw [hu] at u
 obtain ⟨T,l,p,a1,b1,c1,d1,e1,g1⟩:=u
 simp only at a1 b1 c1 d1 e1 g1
 refine ⟨r,by simp only [Instr.loadAt,Instr.sureAddr,Nat.add_zero,Sem.run_bind,Sem.run_pure,Result.andThen_ok];exact hrun,a1,?_⟩
 generalize (aW fr cs).2.2=n2 at *
 generalize (aW fr cs).2.1=us at *
 generalize (aW fr cs).1=vs at *
 have hidf:¬ (fr<=id/\id<n2):=by omega
 have hup:∀k,Lk.upd st (.put id .dead::us) k=if fr<=k/\k<n2 then T k else if k=id then .dead else st k:=fun k=>by
  simp only [Lk.upd]
  rw [b1]
 have main:=hr.step (fun _=>True) hr.all (fun k=>k=id\/(fr<=k/\k<n2)) (N':=n2) (st':=Lk.upd st (.put id .dead::us)) (loc':=fun k=>if fr<=k/\k<n2 then l k else loc k) (fp':=fun k=>if fr<=k/\k<n2 then p k else if k=id then [] else fp k) (w':=w) (by omega) (bg _) rfl rfl rfl (fun _ _ _=>rfl) ?_ ?_ ?_ ?_ ?_ ?_ ?_ ?_
 ·refine ⟨_,_,by rw [show yR sl (.put id .dead::us)=sl from c1 sl];exact main.1,?_⟩
  have:=g1 n2 (Lk.upd st (.put id .dead::us)) (fun k=>if fr<=k/\k<n2 then l k else loc k) (bg _) (fun k h1 h2=>⟨by rw [hup,if_pos ⟨h1,h2⟩],by simp [h1,h2]⟩)
  exact this.stable (by simp) (fun b hb'=>⟨(main.2.1 b hb').1,rfl⟩) (fun _ _ h=>h)
 ·intro k hk
  simp only [not_or] at hk
  exact ⟨by rw [hup,if_neg hk.2,if_neg hk.1],by simp only [if_neg hk.2],by simp only [if_neg hk.2,if_neg hk.1]⟩
 ·intro hfz k hk hkd
  rw [hup] at hkd ⊢
  by_cases h:fr<=k/\k<n2
  ·obtain ⟨h1,h2,h3,h4⟩:=d1 k h.1 h.2
   simp only [h,and_self,if_true]
   exact h2.stable (fun _ _=>rfl) (fun b hb'=>⟨(hfz b hb').1,rfl⟩) (fun _ _ h=>h)
  ·rcases hk with rfl|hk
   ·rw [if_neg h,if_pos rfl] at hkd;exact absurd rfl hkd
   ·exact absurd hk h
 ·intro k hk hkd
  rw [hup] at hkd
  by_cases h:fr<=k/\k<n2
  ·rw [if_pos h] at hkd;exact absurd hkd (d1 k h.1 h.2).1
  ·rcases hk with rfl|hk
   ·simp only [if_neg h,if_true]
   ·exact absurd hk h
 ·intro k hk hge
  have h:¬ (fr<=k/\k<n2):=by omega
  rcases hk with rfl|hk
  ·omega
  ·exact absurd hk h
 ·intro k hk b hb
  by_cases h:fr<=k/\k<n2
  ·simp only [h,and_self,if_true] at hb
   exact .inr ⟨id,.inl rfl,hf1 b ((d1 k h.1 h.2).2.2.2 b hb)⟩
  ·rcases hk with rfl|hk
   ·simp only [if_neg h,if_true] at hb;cases hb
   ·exact absurd hk h
 ·intro k hk
  by_cases h:fr<=k/\k<n2
  ·simp only [h,and_self,if_true];exact (d1 k h.1 h.2).2.2.1
  ·rcases hk with rfl|hk
   ·simp only [if_neg h,if_true];exact .nil
   ·exact absurd hk h
 ·intro j k hj hk hjk b hb hb'
  by_cases h1:fr<=j/\j<n2
  ·by_cases h2:fr<=k/\k<n2
   ·simp only [h1,and_self,if_true] at hb
    simp only [h2,and_self,if_true] at hb'
    exact e1 j k h1.1 h1.2 h2.1 h2.2 hjk b hb hb'
   ·rcases hk with rfl|hk
    ·simp only [if_neg h2,if_true] at hb';cases hb'
    ·exact h2 hk
  ·rcases hj with rfl|hj
   ·simp only [if_neg h1,if_true] at hb;cases hb
   ·exact h1 hj
 ·intro v rv' k hv' _ hk hX
  obtain ⟨k',hk',hlt⟩:=hv'.isRef
  rw [hk] at hk'
  cases hk'
  have hkid:k=id:=by
   rcases hX with h|h
   ·exact h
   ·omega
  subst hkid
  have hdead:Lk.upd st (.put k .dead::us) k=.dead:=by rw [hup,if_neg hidf,if_pos rfl]
  cases v<;>simp only [fF,cO,reduceCtorEq] at hk
  ·subst hk
   obtain ⟨x1,x2,x0,x4,x3⟩:=hv'
   exact ⟨by omega,x2,x0,fun cs' h=>(by rw [hdead,jU] at h;exact HV.noConfusion h),fun sz' m cs' h=>(by rw [hdead,jU] at h;exact HV.noConfusion h)⟩
  ·subst hk
   obtain ⟨x1,x2,x0,x3⟩:=hv'
   exact ⟨by omega,x2,x0,fun h=>by rw [hdead,jU] at h;exact h.elim⟩
  ·subst hk
   obtain ⟨x1,x2,x0,x4,x3⟩:=hv'
   exact ⟨by omega,x2,x0,fun cs' h=>(by rw [hdead,jU] at h;exact HV.noConfusion h),fun h=>by rw [hdead,jU] at h;exact h.elim⟩
theorem Uz {P:Program} {o:Oper} {b:Bool} {sz:Nat} {x:HX} (h:aT P o=.load b sz x):∃t y d i,o.op=.load t y/\P.underlying t=some d/\P.info? t=some i/\b=iK d/\sz=i.size/\x=dZ y:=by
 unfold aT at h
 repeat' split at h
 all_goals (first|(cases h;done)|(unfold yh at h;split at h<;>(cases h;done))|(unfold qN at h;split at h<;>(cases h;done))|skip)
 all_goals cases h
 exact ⟨_,_,_,_,‹_›,‹_›,‹_›,rfl,rfl,rfl⟩
theorem X4 {s:St} {i t sz id:Nat} {x:HX} {cs:List HV} {K:St->Prop} (hx:ev s.sl x=.pref id [] 0) (hst:ax id s.st=.optr cs) (hl:cs.length=sz) (hb:(aW (s.nx+stride*i) cs).2.2<=s.nx+stride*(i+1))
  (hK:K ((s.upd (.put id .dead::(aW (s.nx+stride*i) cs).2.1)).put (some t) (.agg (aW (s.nx+stride*i) cs).1))):rZ P s i (some t) (.load true sz x) K:=by
 intro E ro a w next Q hd ho hr hn
 have hdst:ro.dst=some t:=hd
 have hop:aT P ro=.load true sz x:=by
  unfold bf at ho
  by_cases h:(ro.dst.all fun d=>E.ok d)=true
  ·simpa [h] using ho
  ·simp [h] at ho
 have hok:E.ok t=true:=by
  unfold bf at ho
  by_cases h:(ro.dst.all fun d=>E.ok d)=true
  ·simpa [hdst] using h
  ·simp [h] at ho
 obtain ⟨ty,y,d,inf,q1,q2,q3,q4,rfl,rfl⟩:=Uz hop
 obtain ⟨loc,fp,hr⟩:=hr
 have hv:=hr.val y
 rw [<- jl] at hv
 rw [hx] at hv
 obtain ⟨r,hrun,-,hA⟩:=agA (P:=P) hr (bg _) q2 q3 q4.symm hv hst hl
 have hdo:(execOp a.eval ro).run P w=.ok (.value r) w:=by
  obtain ⟨dst,op,type,pos,after,guard⟩:=ro
  simp only at q1
  subst q1
  simp only [execOp]
  simp [hrun]
 unfold Oper.wp
 rw [hdo]
 show next (a.put ro.dst r) w
 rw [hdst]
 have h3:=SRel.done (s:=s) (d:=some t) hA (fun t' ht=>by cases ht;exact hok)
 exact hn _ _ _ (by rw [St.put_nx,St.upd_nx]) (h3.up hb) hK
theorem QR {k:List HI} {all r:List af} {i t sz id:Nat} {x:HX} {sl st sl' st':List (Nat×HV)} {nx n2:Nat} {rs:List Nat} {K:HV->Prop} [ok:Ok (HS P) k] {cs vs:List HV} {us:List Upd} (hx:ev sl x=.pref id [] 0) (hst:ax id st=.optr cs) (hl:cs.length=sz) (hu:aW (nx+stride*i) cs=(vs,us,n2)) (hb:n2<=nx+stride*(i+1))
  (hs:Bz (some t) (.agg vs) (uT sl ((id,.dead)::st) us)=(sl',st')) (h:G P (HS P) all r (i+1) k rs K sl' st' nx):G P (HS P) all (⟨some t,.load true sz x,none⟩::r) i k rs K sl st nx:=by
 refine rE (X4 (s:=⟨sl,st,nx⟩) hx hst hl (by rw [hu];exact hb) ?_)
 rw [hu]
 exact kL ok.mono ok.plain (nV (us:=.put id .dead::us) hs) h
end
end Go.HL
end
section
namespace Go.Proofs.Ytlbdmpjnmfmnfaa
open Go.RowKit Go.HL Go.FS
def ES (u v:List Int):Nat:=max u.length v.length
def YD (u v:List Int):Bool:=u.any pO || v.any pO || decide (1024<ES u v)
def Y4 (u v:List Int) (k:Nat):List A:=(List.range k).map fun i:Nat=>⟨i,u.getD i (-1),v.getD i (-1),(i:Int)+1⟩
def FC (u v:List Int):List Bool×List A:=if YD u v then ([],[]) else ((List.replicate (ES u v+1) false).set (ES u v) true,Y4 u v (ES u v))
theorem CY {u v:List Int} {k:Nat}:(Y4 u v k).length=k:=by simp [Y4]
theorem Oj {u v:List Int} {k:Nat}:Y4 u v (k+1)=Y4 u v k++[⟨k,u.getD k (-1),v.getD k (-1),(k:Int)+1⟩]:=by simp [Y4,Jb]
attribute [go_sem] List.length_replicate
def atD:List HV->Int
 | [.sl n cs,.int _ j]=>if j.toNat<n then (match cs.getD j.toNat .dead with|.int _ z=>z|_=>0) else -1
 | _=>0
theorem Rq (u:List Int) (k:Nat):atD [.sl u.length (HL.ints u),.int .i64 k]=u.getD k (-1):=by
 by_cases h:k<u.length
 ·simp [atD,h,HL.ints]
 ·simp [atD,h]
theorem Wh (u:List Int) (k:Nat) (hu:u.length<=9223372036854775807):HT Try.prog 80 [.sl u.length (HL.ints u),.int .i64 k] (fun r=>r=.int .i64 (atD [.sl u.length (HL.ints u),.int .i64 k])):=by
 rw [Rq];exact ZA u k hu
def EQ (fin:List Bool) (al:List A):List HV:=[.osl 1 fin.length (HL.bools fin),.osl 4 al.length (recs aC al)]
theorem FZ (u v:List Int) (hu:u.length<=4611686018427387904) (hv:v.length<=4611686018427387904):HT Try.prog 32 [.sl u.length (HL.ints u),.sl v.length (HL.ints v)] (fun r=>r=.agg (EQ (FC u v).1 (FC u v).2)):=by
 refine HT.ofC rfl afq [4] rfl (aZ rfl) ?_
 unfold c32
 simp only [aA,Nat.reduceAdd]
 have hmx:(if (v.length:Int)<(u.length:Int) then (u.length:Int) else (v.length:Int))=(ES u v:Int):=by unfold ES;split<;>omega
 have hmx2:(if (u.length:Int)<(v.length:Int) then (v.length:Int) else (u.length:Int))=(ES u v:Int):=by unfold ES;split<;>omega
 have a1:=TI u (by omega)
 have a2:=TI v (by omega)
 refine zF ⟨?_⟩
 refine aF ay aK (a1) ?_
 rintro _ rfl
 cases h1:u.any pO with
 | true =>
  have ht:FC u v=([],[]):=by unfold FC YD;rw [h1];rfl
  refine zG ⟨?_⟩
  refine zF ⟨?_⟩
  refine aX 0 [1,4] [4] (⟨[(4,.pref 0 [] 0)],[(0,.optr [.osl 1 0 [],.osl 4 0 []])],1⟩:St) rfl rfl ?_
  refine ae ?_
  exact ⟨_,_,rfl,rfl,by rw [ht];rfl⟩
 | false =>
  refine zG ⟨?_⟩
  refine zF ⟨?_⟩
  refine aF ay aK (a2) ?_
  rintro _ rfl
  cases h2:v.any pO with
  | true =>
   have ht:FC u v=([],[]):=by unfold FC YD;rw [h1,h2];rfl
   refine zG ⟨?_⟩
   refine zF ⟨?_⟩
   refine aX 0 [1,4] [4] (⟨[(4,.pref 0 [] 0)],[(0,.optr [.osl 1 0 [],.osl 4 0 []])],1⟩:St) rfl rfl ?_
   refine ae ?_
   exact ⟨_,_,rfl,rfl,by rw [ht];rfl⟩
  | false =>
   refine zG ⟨?_⟩
   by_cases h3:1024<ES u v
   ·have ht:FC u v=([],[]):=by unfold FC YD;rw [h1,h2,decide_eq_true h3];rfl
    refine eH (zA @hmx @hmx2) ⟨?_⟩
    refine aX 0 [1,4] [4] (⟨[(4,.pref 0 [] 0)],[(0,.optr [.osl 1 0 [],.osl 4 0 []])],1⟩:St) rfl rfl ?_
    refine ae ?_
    exact ⟨_,_,rfl,rfl,by rw [ht];rfl⟩
   ·have ht:FC u v=((List.replicate (ES u v+1) false).set (ES u v) true,Y4 u v (ES u v)):=by unfold FC YD;rw [h1,h2,decide_eq_false h3];rfl
    have hn1:((ES u v:Int)+1).toNat=ES u v+1:=by omega
    generalize hN:ES u v=N at h3 hn1 hmx hmx2 ht
    refine eH (zA @hmx (zA @hmx2 @hn1)) ⟨?_⟩
    refine aX 448 [1,4] [0,1,4,7,39,40] (⟨[(0,.sl u.length (HL.ints u)),(1,.sl v.length (HL.ints v)),(4,.pref 0 [] 0),(7,.pref 1 [] 0),(39,.int .i64 N),(40,.int .i64 0)],[(0,.optr [.nils,.nils]),(1,.optr [.osl 1 (N+1) (HL.bools ((List.replicate (N+1) false).set N true)),.osl 4 0 []])],2⟩:St) rfl rfl ?_
    refine aI [0,1,4,7,39,40] (fun k:Nat=>k<=N)
     (fun k=>⟨[(0,.sl u.length (HL.ints u)),(1,.sl v.length (HL.ints v)),(4,.pref 0 [] 0),(7,.pref 1 [] 0),(39,.int .i64 N),(40,.int .i64 k)],[(0,.optr [.nils,.nils]),(1,.optr [.osl 1 (N+1) (HL.bools ((List.replicate (N+1) false).set N true)),.osl 4 k (recs aC (Y4 u v k))])],2⟩)
     (fun k=>N - k) 0 (by omega) rfl ?_
    intro k hk
    by_cases hkl:k<N
    ·have hst:=Oj (u:=u) (v:=v) (k:=k)
     have hwl:=CY (u:=u) (v:=v) (k:=k)
     have t1:=Wh u k (by omega)
     have t2:=Wh v k (by omega)
     refine zF ⟨?_⟩
     refine iW [0,1,8] [] ah ah (fun _ args r=>r=.int .i64 (atD args)) (by simp [ax,HV.deep,jL]) (by simp) ?_ (by rintro _ _ _ rfl fr;exact kW)
     refine zF ⟨?_⟩
     refine bI ay aK t1 ⟨_,rfl,rfl⟩ ?_
     rintro _ rfl -
     refine zG ⟨?_⟩
     refine zF ⟨?_⟩
     refine bI ay aK t2 ⟨_,rfl,rfl⟩ ?_
     rintro _ rfl -
     refine zG ⟨?_⟩
     refine eH @Rq ⟨?_⟩
     exact aP [0,1,4,7,39,40] (k+1) hkl (by omega) (by simp only [hst,Rq,hwl];rfl)
    ·obtain rfl:k=N:=by omega
     refine zF ⟨?_⟩
     refine QR aQ (by rfl) (by rfl) zT (by decide) lH ?_
     refine zF ⟨?_⟩
     refine ae ?_
     exact ⟨_,_,rfl,rfl,by rw [ht];simp only [EQ,CY,List.length_set,List.length_replicate];rfl⟩
theorem DV:∀ {l m:List Bool},HL.bools l=HL.bools m->l=m
 | [],[],_=>rfl
 | [],_::_,h=>by cases h
 | _::_,[],h=>by cases h
 | a::l,b::m,h=>by
  simp only [HL.bools,dV,uA,HV.bool.injEq] at h
  rw [h.1,DV h.2]
theorem Nc:∀ {l m:List A},recs aC l=recs aC m->l=m
 | [],[],_=>rfl
 | [],_::_,h=>by cases h
 | _::_,[],h=>by cases h
 | ⟨a1,a2,a3,a4⟩::l,⟨b1,b2,b3,b4⟩::m,h=>by
  simp only [recs,List.flatMap_cons,aC,List.cons_append,List.nil_append,uA,HV.int.injEq,true_and] at h
  obtain ⟨rfl,rfl,rfl,rfl,h⟩:=h
  rw [Nc h]
theorem YQ {f g:List Bool} {l m:List A} (h:dE f l=dE g m):f=g/\l=m:=by
 simp only [dE,fB,uA,HV.sl.injEq,and_true] at h
 exact ⟨DV h.1.2,Nc h.2.2⟩
def frD (args:List HV) (r:HV):Prop:=∃fin al,args=[.agg (dE fin al)]/\r=.osl 1 fin.length (dw (aG (·.f) fin.length al))
theorem WZ {fin:List Bool} {al:List A} {r:HV} (h:frD [.agg (dE fin al)] r):r=.osl 1 fin.length (dw (aG (·.f) fin.length al)):=by
 obtain ⟨f,l,h1,rfl⟩:=h
 simp only [uA,HV.agg.injEq,and_true] at h1
 obtain ⟨rfl,rfl⟩:=YQ h1
 rfl
theorem WR (fin:List Bool) (al:List A) (hv:okF fin al=true):HT Try.prog 64 [.agg (dE fin al)] (frD [.agg (dE fin al)]) :=
 (TB fin al hv).mono fun r h=>⟨fin,al,rfl,h⟩
theorem Gu (ll:List (List A)):aO (dw ll)=[]:=by
 induction ll with
 | nil=>rfl
 | cons l ll ih=>simp only [dw,dV,aO,HV.deep,DW (g:=aC) (fun _=>rfl),List.nil_append] at ih ⊢;exact ih
theorem Xo:zS ⟨.ints 2,none⟩ [] [] (.agg [.int .i64 0,.int .i64 0]) (.int .i64 0)=.omap ⟨.ints 2,none⟩ [.agg [.int .i64 0,.int .i64 0]] [.int .i64 0]:=rfl
def pK (fs ft:List Bool) (al bl:List A):(List Bool×List A)×Int :=
 if okF fs al=true/\okF ft bl=true then
  match FO al bl with
  | some st=>((gB fs ft st.1,st.2),0)
  | none=>(([],[]),4)
 else (([],[]),1)
theorem LU {α:Type} {P:Program} {k:List HI} {Q:HE->St->Prop} {G:Prop} (σ:α->St) (Inv:α->Prop) (use:(∀a,Inv a->hx P k Q (σ a))->G) (key:∀a,Inv a->hx P k Q (σ a)):G:=use key
theorem Dy {fs ft:List Bool} {l:List Nd} {i:Nat} (h:i<l.length):gB fs ft (l.take (i+1))=gB fs ft (l.take i)++[fs.getD (l.getD i default).1.toNat false&&ft.getD (l.getD i default).2.toNat false]:=by
 unfold gB
 rw [bK h,qj];rfl
theorem wU {n:Nat} {l:List A} {p:Int} (h0:0<=p) (h:p<n):(aG (·.f) n l).getD p.toNat []=outA p l:=by
 rw [kV _ _ (by omega)]
 unfold outA
 rw [Int.toNat_of_nonneg h0]
structure CI (fs ft:List Bool) (al bl:List A) (i:Nat) (st:CS):Prop where
 le:i<=st.1.length
 l1:st.1.length<=2048
 l2:st.2.length<=8192
 in_:∀v∈st.1,Q4 fs.length ft.length v
 go:yJ al bl (2100 - i) i st=FO al bl
theorem CI.pair {fs ft:List Bool} {al bl:List A} {i:Nat} {st:CS} (h:CI fs ft al bl i st) (hi:i<st.1.length):Q4 fs.length ft.length (st.1.getD i default):=by
 refine h.in_ _ ?_
 rw [bH,bM hi];exact gy hi
theorem CI.step {fs ft:List Bool} {al bl:List A} {i:Nat} {st:CS} (h:CI fs ft al bl i st) (hi:i<st.1.length):FO al bl=if within (IB al bl i st)=true then yJ al bl (2100 - (i+1)) (i+1) (IB al bl i st) else none:=by
 have h1:=h.go
 have h2:=h.l1
 rw [show 2100 - i=(2100 - (i+1))+1 by omega,yJ,if_pos hi] at h1
 exact h1.symm
theorem CI.next {fs ft:List Bool} {al bl:List A} {i:Nat} {st:CS} (ho1:okF fs al=true) (ho2:okF ft bl=true) (h:CI fs ft al bl i st) (hi:i<st.1.length) (hw:within (IB al bl i st)=true):CI fs ft al bl (i+1) (IB al bl i st):=by
 have h1:=h.step hi
 rw [if_pos hw] at h1
 have hw':=hw
 simp only [within,decide_eq_true_eq] at hw'
 obtain ⟨x,hx⟩:=tY (i:=i) (l:=iL al bl (st.1.getD i default)) (st:=st)
 refine ⟨?_,hw'.1,hw'.2,?_,h1.symm⟩
 ·show i+1<=(fG i st _).1.length
  rw [hx,bD];omega
 ·refine LQ h.in_ (Au (fun a ha=>?_) (fun b hb=>?_) (h.pair hi))
  ·have:=cu ho1 ha;omega
  ·have:=cu ho2 hb;omega
theorem CI.done {fs ft:List Bool} {al bl:List A} {i:Nat} {st:CS} (h:CI fs ft al bl i st) (hi:¬ i<st.1.length):FO al bl=some st:=by
 have h1:=h.go
 have h2:=h.l1
 have h3:=h.le
 rw [show 2100 - i=(2100 - (i+1))+1 by omega,yJ,if_neg hi] at h1
 exact h1.symm
theorem CI.start {fs ft:List Bool} {al bl:List A} (h1:1<=fs.length) (h2:1<=ft.length):CI fs ft al bl 0 ([(0,0)],[]) :=
 ⟨by simp,by simp,by simp,fun v hv=>by simp only [zl009] at hv;subst hv;exact ⟨by simp,by simp only;omega,by simp,by simp only;omega⟩,rfl⟩
theorem Ut (fs ft:List Bool) (al bl:List A) (ho1:okF fs al=true) (ho2:okF ft bl=true) :
  hx Try.prog [.c (.loop VZ),.b 0,.c Y3] (finish [4,5] (KC [.c 4 true 2,.t 5] fun r=>r=.tup [.agg (EQ (pK fs ft al bl).1.1 (pK fs ft al bl).1.2),.int .i64 (pK fs ft al bl).2]))
   ⟨[(2,.ptr [.sl fs.length (HL.bools fs),.sl al.length (recs aC al)] 0),(3,.ptr [.sl ft.length (HL.bools ft),.sl bl.length (recs aC bl)] 0),(4,.pref 0 [] 0),(5,.int .i64 0),(6,.sl fs.length (bF (aG (·.f) fs.length al))),(7,.sl ft.length (bF (aG (·.f) ft.length bl))),(8,.pref 1 [] 0),(9,.pref 2 [] 0),(10,.pref 3 [] 0),(11,.fn 65 [.pref 1 [] 0,.pref 2 [] 0,.pref 3 [] 0]),(12,.int .i64 0)],[(0,.optr [.nils,.nils]),(1,ng [(0,0)]),(2,ni [(0,0)]),(3,lU [] [])],4⟩:=by
 obtain ⟨a1,a2,a3⟩:=bY ho1
 obtain ⟨b1,b2,b3⟩:=bY ho2
 have hl1:=dD (·.f) fs.length al
 have hl2:=dD (·.f) ft.length bl
 have hcm:pK fs ft al bl=match FO al bl with|some st=>((gB fs ft st.1,st.2),0)|none=>(([],[]),4):=by unfold pK;rw [if_pos ⟨ho1,ho2⟩]
 refine aI [2,3,4,5,6,7,8,9,10,11,12] (fun s:Nat×CS=>CI fs ft al bl s.1 s.2)
  (fun s=>⟨[(2,.ptr [.sl fs.length (HL.bools fs),.sl al.length (recs aC al)] 0),(3,.ptr [.sl ft.length (HL.bools ft),.sl bl.length (recs aC bl)] 0),(4,.pref 0 [] 0),(5,.int .i64 0),(6,.sl fs.length (bF (aG (·.f) fs.length al))),(7,.sl ft.length (bF (aG (·.f) ft.length bl))),(8,.pref 1 [] 0),(9,.pref 2 [] 0),(10,.pref 3 [] 0),(11,.fn 65 [.pref 1 [] 0,.pref 2 [] 0,.pref 3 [] 0]),(12,.int .i64 s.1)],[(0,.optr [.nils,.nils]),(1,ng s.2.1),(2,ni s.2.1),(3,lU (gB fs ft (s.2.1.take s.1)) s.2.2)],4⟩)
  (fun s=>2100 - s.1) (0,([(0,0)],[])) (.start a1 b1) rfl ?_
 rintro ⟨i,st⟩ hI
 simp only at hI ⊢
 have q1:=hI.le
 have q2:=hI.l1
 have q3:=hI.l2
 have hFl:(gB fs ft (st.1.take i)).length=i:=by simp only [gB,List.length_map,dS];omega
 by_cases hi:i<st.1.length
 ·have hv:=hI.pair hi
  have hft:=Dy (fs:=fs) (ft:=ft) hi
  have hr1:=wU (l:=al) hv.1 hv.2.1
  have hr2:=wU (l:=bl) hv.2.2.1 hv.2.2.2
  have hc1:=hI.step hi
  have hnx:=hI.next ho1 ho2 hi
  generalize hFe:gB fs ft (st.1.take i)=F at hFl hft ⊢
  obtain ⟨v,hve⟩:∃v,st.1.getD i default=v:=⟨_,rfl⟩
  rw [hve] at hv hft hr1 hr2
  obtain ⟨v1,v2,v3,v4⟩:=hv
  refine eH @hve ⟨?_⟩
  refine az 132 [2,3,4,5,6,7,8,9,10,11,12,13] ⟨[(2,.ptr [.sl fs.length (HL.bools fs),.sl al.length (recs aC al)] 0),(3,.ptr [.sl ft.length (HL.bools ft),.sl bl.length (recs aC bl)] 0),(4,.pref 0 [] 0),(5,.int .i64 0),(6,.sl fs.length (bF (aG (·.f) fs.length al))),(7,.sl ft.length (bF (aG (·.f) ft.length bl))),(8,.pref 1 [] 0),(9,.pref 2 [] 0),(10,.pref 3 [] 0),(11,.fn 65 [.pref 1 [] 0,.pref 2 [] 0,.pref 3 [] 0]),(12,.int .i64 i),(13,.ptr [.int .i64 v.1,.int .i64 v.2] 0)],[(0,.optr [.nils,.nils]),(1,ng st.1),(2,ni st.1),(3,lU F st.2)],4⟩ rfl ?_
  have o1:(outA v.1 al).length<=8192:=jc (List.length_filter_le _ _) a3
  have o2:(outA v.2 bl).length<=8192:=jc (List.length_filter_le _ _) b3
  have hF1:(F++[fs.getD v.1.toNat false&&ft.getD v.2.toNat false]).length=i+1:=by simp [hFl]
  apply LU (P:=Try.prog) (fun _:Unit=>(⟨[(2,.ptr [.sl fs.length (HL.bools fs),.sl al.length (recs aC al)] 0),(3,.ptr [.sl ft.length (HL.bools ft),.sl bl.length (recs aC bl)] 0),(4,.pref 0 [] 0),(5,.int .i64 0),(6,.sl fs.length (bF (aG (·.f) fs.length al))),(7,.sl ft.length (bF (aG (·.f) ft.length bl))),(8,.pref 1 [] 0),(9,.pref 2 [] 0),(10,.pref 3 [] 0),(11,.fn 65 [.pref 1 [] 0,.pref 2 [] 0,.pref 3 [] 0]),(12,.int .i64 i),(13,.ptr [.int .i64 v.1,.int .i64 v.2] 0)],[(0,.optr [.nils,.nils]),(1,ng st.1),(2,ni st.1),(3,lU (F++[fs.getD v.1.toNat false&&ft.getD v.2.toNat false]) st.2)],4⟩:St)) (fun _=>True)
  ·intro key
   refine iW [2,3,13] [10] ah ah (fun _ _ _=>False) (by simp [ax,HV.deep,aO,bJ,bP]) (by simp [ax,HV.deep,aO]) ?_
   cases c1:fs.getD v.1.toNat false with
   | false =>
    rw [c1] at key hF1
    refine Na @c1 ⟨?_⟩
    exact aY [2,3,4,5,6,7,8,9,10,11,12,13] _ (by unfold lU;rw [bD];rfl) (key () trivial)
   | true =>
    rw [c1] at key hF1
    cases c2:ft.getD v.2.toNat false with
    | false =>
     rw [c2] at key hF1
     refine Na (zA @c1 @c2) ⟨?_⟩
     exact aY [2,3,4,5,6,7,8,9,10,11,12,13] _ (by unfold lU;rw [bD];rfl) (key () trivial)
    | true =>
     rw [c2] at key hF1
     refine Na (zA @c1 @c2) ⟨?_⟩
     exact aY [2,3,4,5,6,7,8,9,10,11,12,13] _ (by unfold lU;rw [bD];rfl) (key () trivial)
  rintro - -
  have hrd:fG i (fG i st (stA (outA v.2 bl) v)) ((outA v.1 al).flatMap fun a=>xM a (outA v.2 bl) v)=IB al bl i st:=by
   rw [<- yf];unfold IB iL LZ;rw [hve]
  have hA:=qZ (i:=i) (l:=stA (outA v.2 bl) v) (st:=st)
  have hAl:=Fz (two:=outA v.2 bl) (v:=v)
  refine eH @hr2 ⟨?_⟩
  refine aY [2,3,4,5,6,7,8,9,10,11,12,13,72,73,74] ⟨[(2,.ptr [.sl fs.length (HL.bools fs),.sl al.length (recs aC al)] 0),(3,.ptr [.sl ft.length (HL.bools ft),.sl bl.length (recs aC bl)] 0),(4,.pref 0 [] 0),(5,.int .i64 0),(6,.sl fs.length (bF (aG (·.f) fs.length al))),(7,.sl ft.length (bF (aG (·.f) ft.length bl))),(8,.pref 1 [] 0),(9,.pref 2 [] 0),(10,.pref 3 [] 0),(11,.fn 65 [.pref 1 [] 0,.pref 2 [] 0,.pref 3 [] 0]),(12,.int .i64 i),(13,.ptr [.int .i64 v.1,.int .i64 v.2] 0),(72,.sl (outA v.2 bl).length (recs aC (outA v.2 bl))),(73,.int .i64 (outA v.2 bl).length),(74,.int .i64 0)],[(0,.optr [.nils,.nils]),(1,ng st.1),(2,ni st.1),(3,lU (F++[fs.getD v.1.toNat false&&ft.getD v.2.toNat false]) st.2)],4⟩ rfl ?_
  refine abL _ _ _ _ _ _ i v (outA v.2 bl) (F++[fs.getD v.1.toNat false&&ft.getD v.2.toNat false]) st o2 (by omega) (by omega) (by omega) ?_
  refine eH @hr1 ⟨?_⟩
  refine aY [2,3,4,5,6,7,8,9,10,11,12,13,96,97,98] ⟨[(2,.ptr [.sl fs.length (HL.bools fs),.sl al.length (recs aC al)] 0),(3,.ptr [.sl ft.length (HL.bools ft),.sl bl.length (recs aC bl)] 0),(4,.pref 0 [] 0),(5,.int .i64 0),(6,.sl fs.length (bF (aG (·.f) fs.length al))),(7,.sl ft.length (bF (aG (·.f) ft.length bl))),(8,.pref 1 [] 0),(9,.pref 2 [] 0),(10,.pref 3 [] 0),(11,.fn 65 [.pref 1 [] 0,.pref 2 [] 0,.pref 3 [] 0]),(12,.int .i64 i),(13,.ptr [.int .i64 v.1,.int .i64 v.2] 0),(96,.sl (outA v.1 al).length (recs aC (outA v.1 al))),(97,.int .i64 (outA v.1 al).length),(98,.int .i64 0)],[(0,.optr [.nils,.nils]),(1,ng (fG i st (stA (outA v.2 bl) v)).1),(2,ni (fG i st (stA (outA v.2 bl) v)).1),(3,lU (F++[fs.getD v.1.toNat false&&ft.getD v.2.toNat false]) (fG i st (stA (outA v.2 bl) v)).2)],4⟩ rfl ?_
  refine acQ _ _ _ _ _ _ i v (outA v.1 al) (outA v.2 bl) (F++[fs.getD v.1.toNat false&&ft.getD v.2.toNat false]) _ o1 o2 (by omega) (by omega) (by omega) v3 v4 (by rw [Em,hl2]) (by rw [Ja _ (by omega),hr2]) ?_
  have hB:=qZ (i:=i) (l:=(outA v.1 al).flatMap fun a=>xM a (outA v.2 bl) v) (st:=fG i st (stA (outA v.2 bl) v))
  have hBl:=Ff (one:=outA v.1 al) (two:=outA v.2 bl) (v:=v)
  have hBm:(outA v.1 al).length*((outA v.2 bl).length+1)<=8192*8193:=tK o1 (by omega)
  have htk:(IB al bl i st).1.take (i+1)=st.1.take (i+1):=by
   obtain ⟨y,hy⟩:=tY (i:=i) (l:=iL al bl (st.1.getD i default)) (st:=st)
   unfold IB
   rw [hy,PR (by omega)]
  rw [hrd] at hB ⊢
  rw [<- hft,<- htk]
  have hlt:(gB fs ft ((IB al bl i st).1.take (i+1))).length=i+1:=by rw [htk,hft,bD,hFl];rfl
  generalize IB al bl i st=sn at hc1 hnx hB hlt ⊢
  have hrl:sn.1.length<=100000000/\sn.2.length<=100000000:=by omega
  have hFn:(gB fs ft (sn.1.take (i+1))).length<=100000:=by omega
  by_cases w1:2048<sn.1.length
  ·skip
   have hwn:within sn=false:=by simp only [within,decide_eq_false_iff_not];omega
   rw [hwn,if_neg (by decide)] at hc1
   rw [hc1] at hcm
   rw [hcm]
   refine zF ⟨?_⟩
   refine aX 0 [1,4] [4,5] (⟨[(4,.pref 0 [] 0),(5,.int .i64 4)],[(0,.optr [.osl 1 0 [],.osl 4 0 []])],1⟩:St) rfl rfl ?_
   refine ae ?_
   exact ⟨_,_,rfl,rfl,rfl⟩
  ·by_cases w2:8192<sn.2.length
   ·skip
    have hwn:within sn=false:=by simp only [within,decide_eq_false_iff_not];omega
    rw [hwn,if_neg (by decide)] at hc1
    rw [hc1] at hcm
    rw [hcm]
    refine zF ⟨?_⟩
    refine aX 0 [1,4] [4,5] (⟨[(4,.pref 0 [] 0),(5,.int .i64 4)],[(0,.optr [.osl 1 0 [],.osl 4 0 []])],1⟩:St) rfl rfl ?_
    refine ae ?_
    exact ⟨_,_,rfl,rfl,rfl⟩
   ·refine zF ⟨?_⟩
    exact aP [2,3,4,5,6,7,8,9,10,11,12] (i+1,sn) (hnx (by simp only [within,decide_eq_true_eq];omega)) dL rfl
 ·have hc:=hI.done hi
  rw [hc] at hcm
  rw [hcm]
  obtain rfl:i=st.1.length:=by omega
  rw [fK]
  rw [fK] at hFl
  refine zF ⟨?_⟩
  refine QR aQ (by rfl) (by rfl) zT (by decide) lH ?_
  refine zF ⟨?_⟩
  refine ae ?_
  exact ⟨_,_,rfl,rfl,rfl⟩
end Go.Proofs.Ytlbdmpjnmfmnfaa
end
