import Derived.Test.YtlbdmpjnmfmnfaaHl5
import Derived.Test.YtlbdmpjnmfmnfaaFwD
import Derived.Test.YtlbdmpjnmfmnfaaHlW
set_option linter.unusedSimpArgs false
set_option linter.unusedVariables false
set_option maxHeartbeats 8000000
section
namespace Go.HL
open Go.RowKit
section
variable {P:Program} {E:Fr} {N fr:Nat} {sl st:Lk} {loc:Nat->Value} {fp:Nat->List Nat} {a:Act} {w:World}
theorem ae6 (hr:Rel E N sl st loc fp a w) (hfr:N<=fr) {t:TypeId} {d:TypeDesc} {i:TypeInfo} (hd:P.underlying t=some d) (hi:P.info? t=some i) (hA:gp d=true) {id:Nat} {cs:List HV} {rv:Value}
  (hv:OW (frz E fp w) w.heap (RefR N st loc w.heap) [.pref id [] 0] [rv] []) (hst:st id=.optr cs) (hl:cs.length=i.size) :
  ∃r,(Instr.loadAt t rv).run P w=.ok r w/\fr<=(aS fr cs).2.2/\After E (aS fr cs).2.2 sl st (.put id .dead::(aS fr cs).2.1) (.agg (aS fr cs).1) r a w:=by
 obtain ⟨hid,-,-,hn⟩:=uJ hv
 have hdd:st id≠.dead:=by rw [hst];simp
 obtain ⟨rvn,g',o',b1,b2,b3⟩:=hn (by rw [ax,hst];trivial)
 simp only [dA,bT] at b1
 subst b1
 have htr:=hr.tree id hdd
 rw [hst] at htr
 obtain ⟨g,cur,e,f1,hloc,hfp,hg,how⟩:∃g cur e f1,loc id=.pointer (some ⟨g,0,none⟩)/\fp id=g::f1/\w.heap[g]?=some (.cells cur e (0,0))/\OW (frz E fp w) w.heap dG cs cur.toList f1:=by
  generalize loc id=lv at htr
  generalize fp id=fs at htr
  cases htr with
  | leaf _ _ h3=>exact absurd rfl (h3.1 _)
  | @optr _ _ g cur e f1 _ _ _ h1 h2 h3 =>
   cases h3
   exact ⟨g,cur,e,f1,rfl,by simp,h1,h2⟩
 rw [hloc] at b2
 simp only [kL,bT,jg] at b2
 obtain ⟨rfl,rfl⟩:=b2
 subst b3
 obtain ⟨r,hrun,ho⟩:=ML hd hi hg how hl (by rw [hA];simp)
 rw [hA,if_pos rfl] at ho
 have hnd0:=hr.nodup id
 rw [hfp] at hnd0
 have hnd:f1.Nodup:=(zl033.1 hnd0).2
 have hf1:∀b∈f1,b∈fp id:=fun b hb=>by rw [hfp];simp [hb]
 have u:=ho.unpack (fun _ _ h=>h) fr hnd
 have hu:aS fr [.agg cs]=([.agg (aS fr cs).1],(aS fr cs).2.1,(aS fr cs).2.2):=by simp [aS,unpack]
 rw [hu] at u
 obtain ⟨T,l,p,a1,b1,c1,d1,e1,g1⟩:=u
 simp only at a1 b1 c1 d1 e1 g1
 refine ⟨r,by simp only [Instr.loadAt,Instr.sureAddr,Nat.add_zero,Sem.run_bind,Sem.run_pure,Result.andThen_ok];exact hrun,a1,?_⟩
 generalize (aS fr cs).2.2=n2 at *
 generalize (aS fr cs).2.1=us at *
 generalize (aS fr cs).1=vs at *
 have hidf:¬ (fr<=id/\id<n2):=by omega
 have hup:∀k,Lk.upd st (.put id .dead::us) k=if fr<=k/\k<n2 then T k else if k=id then .dead else st k:=fun k=>by
  simp only [Lk.upd]
  rw [b1]
 have main:=hr.step (fun _=>True) hr.all (fun k=>k=id\/(fr<=k/\k<n2)) (N':=n2) (st':=Lk.upd st (.put id .dead::us)) (loc':=fun k=>if fr<=k/\k<n2 then l k else loc k) (fp':=fun k=>if fr<=k/\k<n2 then p k else if k=id then [] else fp k) (w':=w) (by omega) (aY _) rfl rfl rfl (fun _ _ _=>rfl) ?_ ?_ ?_ ?_ ?_ ?_ ?_ ?_
 ·refine ⟨_,_,by rw [show yF sl (.put id .dead::us)=sl from c1 sl];exact main.1,?_⟩
  have:=g1 n2 (Lk.upd st (.put id .dead::us)) (fun k=>if fr<=k/\k<n2 then l k else loc k) (aY _) (fun k h1 h2=>⟨by rw [hup,if_pos ⟨h1,h2⟩],by simp [h1,h2]⟩)
  exact this.stable (by simp) (fun b hb'=>⟨(main.2.1 b hb').1,rfl⟩) (fun _ _ h=>h)
 ·intro k hk
  simp only [not_or] at hk
  exact ⟨by rw [hup,if_neg hk.2,if_neg hk.1],by simp only [if_neg hk.2],by simp only [if_neg hk.2,if_neg hk.1]⟩
 ·intro hfz k hk hkd
  rw [hup] at hkd ⊢
  by_cases h:fr<=k/\k<n2
  ·obtain ⟨h1,h2,h3,h4⟩:=d1 k h.1 h.2
   simp only [h,and_self,if_true]
   exact h2.stable (fun _ _=>rfl) (fun b hb'=>⟨(hfz b hb').1,rfl⟩) (fun _ _ h=>h)
  ·rcases hk with rfl|hk
   ·rw [if_neg h,if_pos rfl] at hkd;exact absurd rfl hkd
   ·exact absurd hk h
 ·intro k hk hkd
  rw [hup] at hkd
  by_cases h:fr<=k/\k<n2
  ·rw [if_pos h] at hkd;exact absurd hkd (d1 k h.1 h.2).1
  ·rcases hk with rfl|hk
   ·simp only [if_neg h,if_true]
   ·exact absurd hk h
 ·intro k hk hge
  have h:¬ (fr<=k/\k<n2):=by omega
  rcases hk with rfl|hk
  ·omega
  ·exact absurd hk h
 ·intro k hk b hb
  by_cases h:fr<=k/\k<n2
  ·simp only [h,and_self,if_true] at hb
   exact .inr ⟨id,.inl rfl,hf1 b ((d1 k h.1 h.2).2.2.2 b hb)⟩
  ·rcases hk with rfl|hk
   ·simp only [if_neg h,if_true] at hb;cases hb
   ·exact absurd hk h
 ·intro k hk
  by_cases h:fr<=k/\k<n2
  ·simp only [h,and_self,if_true];exact (d1 k h.1 h.2).2.2.1
  ·rcases hk with rfl|hk
   ·simp only [if_neg h,if_true];exact .nil
   ·exact absurd hk h
 ·intro j k hj hk hjk b hb hb'
  by_cases h1:fr<=j/\j<n2
  ·by_cases h2:fr<=k/\k<n2
   ·simp only [h1,and_self,if_true] at hb
    simp only [h2,and_self,if_true] at hb'
    exact e1 j k h1.1 h1.2 h2.1 h2.2 hjk b hb hb'
   ·rcases hk with rfl|hk
    ·simp only [if_neg h2,if_true] at hb';cases hb'
    ·exact h2 hk
  ·rcases hj with rfl|hj
   ·simp only [if_neg h1,if_true] at hb;cases hb
   ·exact h1 hj
 ·intro v rv' k hv' _ hk hX
  obtain ⟨k',hk',hlt⟩:=hv'.isRef
  rw [hk] at hk'
  cases hk'
  have hkid:k=id:=by
   rcases hX with h|h
   ·exact h
   ·omega
  subst hkid
  have hdead:Lk.upd st (.put k .dead::us) k=.dead:=by rw [hup,if_neg hidf,if_pos rfl]
  cases v<;>simp only [dW,bT,reduceCtorEq] at hk
  ·subst hk
   obtain ⟨x1,x2,x0,x4,x3⟩:=hv'
   exact ⟨by omega,x2,x0,fun cs' h=>(by rw [hdead,jr] at h;exact HV.noConfusion h),fun sz' m cs' h=>(by rw [hdead,jr] at h;exact HV.noConfusion h)⟩
  ·subst hk
   obtain ⟨x1,x2,x0,x3⟩:=hv'
   exact ⟨by omega,x2,x0,fun h=>by rw [hdead,jr] at h;exact h.elim⟩
  ·subst hk
   obtain ⟨x1,x2,x0,x4,x3⟩:=hv'
   exact ⟨by omega,x2,x0,fun cs' h=>(by rw [hdead,jr] at h;exact HV.noConfusion h),fun h=>by rw [hdead,jr] at h;exact h.elim⟩
theorem Uo {P:Program} {o:Oper} {b:Bool} {sz:Nat} {x:HX} (h:aN P o=.load b sz x):∃t y d i,o.op=.load t y/\P.underlying t=some d/\P.info? t=some i/\b=gp d/\sz=i.size/\x=dO y:=by
 unfold aN at h
 repeat' split at h
 all_goals (first|(cases h;done)|(unfold yY at h;split at h<;>(cases h;done))|(unfold qA at h;split at h<;>(cases h;done))|skip)
 all_goals cases h
 exact ⟨_,_,_,_,‹_›,‹_›,‹_›,rfl,rfl,rfl⟩
theorem Wu {s:St} {i t sz id:Nat} {x:HX} {cs:List HV} {K:St->Prop} (hx:ev s.sl x=.pref id [] 0) (hst:au id s.st=.optr cs) (hl:cs.length=sz) (hb:(aS (s.nx+stride*i) cs).2.2<=s.nx+stride*(i+1))
  (hK:K ((s.upd (.put id .dead::(aS (s.nx+stride*i) cs).2.1)).put (some t) (.agg (aS (s.nx+stride*i) cs).1))):yf P s i (some t) (.load true sz x) K:=by
 intro E ro a w next Q hd ho hr hn
 have hdst:ro.dst=some t:=hd
 have hop:aN P ro=.load true sz x:=by
  unfold aJ at ho
  by_cases h:(ro.dst.all fun d=>E.ok d)=true
  ·simpa [h] using ho
  ·simp [h] at ho
 have hok:E.ok t=true:=by
  unfold aJ at ho
  by_cases h:(ro.dst.all fun d=>E.ok d)=true
  ·simpa [hdst] using h
  ·simp [h] at ho
 obtain ⟨ty,y,d,inf,q1,q2,q3,q4,rfl,rfl⟩:=Uo hop
 obtain ⟨loc,fp,hr⟩:=hr
 have hv:=hr.val y
 rw [<- jd] at hv
 rw [hx] at hv
 obtain ⟨r,hrun,-,hA⟩:=ae6 (P:=P) hr (aY _) q2 q3 q4.symm hv hst hl
 have hdo:(execOp a.eval ro).run P w=.ok (.value r) w:=by
  obtain ⟨dst,op,type,pos,after,guard⟩:=ro
  simp only at q1
  subst q1
  simp only [execOp]
  simp [hrun]
 unfold Oper.wp
 rw [hdo]
 show next (a.put ro.dst r) w
 rw [hdst]
 have h3:=SRel.done (s:=s) (d:=some t) hA (fun t' ht=>by cases ht;exact hok)
 exact hn _ _ _ (by rw [St.put_nx,St.upd_nx]) (h3.up hb) hK
theorem X0 {k:List HI} {all r:List HOper} {i t sz id:Nat} {x:HX} {sl st sl' st':List (Nat×HV)} {nx n2:Nat} {rs:List Nat} {K:HV->Prop} [ok:Ok (HS P) k] {cs vs:List HV} {us:List Upd} (hx:ev sl x=.pref id [] 0) (hst:au id st=.optr cs) (hl:cs.length=sz) (hu:aS (nx+stride*i) cs=(vs,us,n2)) (hb:n2<=nx+stride*(i+1))
  (hs:Ae (some t) (.agg vs) (tV sl ((id,.dead)::st) us)=(sl',st')) (h:G P (HS P) all r (i+1) k rs K sl' st' nx):G P (HS P) all (⟨some t,.load true sz x,none⟩::r) i k rs K sl st nx:=by
 refine zD (Wu (s:=⟨sl,st,nx⟩) hx hst hl (by rw [hu];exact hb) ?_)
 rw [hu]
 exact lS ok.mono ok.plain (mW (us:=.put id .dead::us) hs) h
end
end Go.HL
end
section
namespace Go.Proofs.Ytlbdmpjnmfmnfaa
open Go.RowKit Go.HL Go.FS
def O5 (u v:List Int):Nat:=max u.length v.length
def wdB (u v:List Int):Bool:=u.any Ia || v.any Ia || decide (1024<O5 u v)
def wdA (u v:List Int) (k:Nat):List A:=(List.range k).map fun i:Nat=>⟨i,u.getD i (-1),v.getD i (-1),(i:Int)+1⟩
def VQ (u v:List Int):List Bool×List A:=if wdB u v then ([],[]) else ((List.replicate (O5 u v+1) false).set (O5 u v) true,wdA u v (O5 u v))
theorem RP {u v:List Int} {k:Nat}:(wdA u v k).length=k:=by simp [wdA]
theorem XD {u v:List Int} {k:Nat}:wdA u v (k+1)=wdA u v k++[⟨k,u.getD k (-1),v.getD k (-1),(k:Int)+1⟩]:=by simp [wdA,JE]
attribute [go_sem] List.length_replicate
def atD:List HV->Int
 | [.sl n cs,.int _ j]=>if j.toNat<n then (match cs.getD j.toNat .dead with|.int _ z=>z|_=>0) else -1
 | _=>0
theorem PW (u:List Int) (k:Nat):atD [.sl u.length (HL.ints u),.int .i64 k]=u.getD k (-1):=by
 by_cases h:k<u.length
 ·simp [atD,h,HL.ints]
 ·simp [atD,h]
theorem V3 (u:List Int) (k:Nat) (hu:u.length<=9223372036854775807):HT Try.prog 80 [.sl u.length (HL.ints u),.int .i64 k] (fun r=>r=.int .i64 (atD [.sl u.length (HL.ints u),.int .i64 k])):=by
 rw [PW];exact Z9 u k hu
def Qr (fin:List Bool) (al:List A):List HV:=[.osl 1 fin.length (HL.bools fin),.osl 4 al.length (recs aC al)]
theorem X7 (u v:List Int) (hu:u.length<=4611686018427387904) (hv:v.length<=4611686018427387904):HT Try.prog 32 [.sl u.length (HL.ints u),.sl v.length (HL.ints v)] (fun r=>r=.agg (Qr (VQ u v).1 (VQ u v).2)):=by
 refine HT.ofC rfl afj [4] rfl (bF rfl) ?_
 unfold c32
 simp only [ay,Nat.reduceAdd]
 have hmx:(if (v.length:Int)<(u.length:Int) then (u.length:Int) else (v.length:Int))=(O5 u v:Int):=by unfold O5;split<;>omega
 have hmx2:(if (u.length:Int)<(v.length:Int) then (v.length:Int) else (u.length:Int))=(O5 u v:Int):=by unfold O5;split<;>omega
 have a1:=SK u (by omega)
 have a2:=SK v (by omega)
 refine zF ⟨?_⟩
 refine aX aG bz (a1) ?_
 rintro _ rfl
 cases h1:u.any Ia with
 | true =>
  have ht:VQ u v=([],[]):=by unfold VQ wdB;rw [h1];rfl
  refine zG ⟨?_⟩
  refine zF ⟨?_⟩
  refine dZ 0 [1,4] [4] (⟨[(4,.pref 0 [] 0)],[(0,.optr [.osl 1 0 [],.osl 4 0 []])],1⟩:St) rfl rfl ?_
  refine ae ?_
  exact ⟨_,_,rfl,rfl,by rw [ht];rfl⟩
 | false =>
  refine zG ⟨?_⟩
  refine zF ⟨?_⟩
  refine aX aG bz (a2) ?_
  rintro _ rfl
  cases h2:v.any Ia with
  | true =>
   have ht:VQ u v=([],[]):=by unfold VQ wdB;rw [h1,h2];rfl
   refine zG ⟨?_⟩
   refine zF ⟨?_⟩
   refine dZ 0 [1,4] [4] (⟨[(4,.pref 0 [] 0)],[(0,.optr [.osl 1 0 [],.osl 4 0 []])],1⟩:St) rfl rfl ?_
   refine ae ?_
   exact ⟨_,_,rfl,rfl,by rw [ht];rfl⟩
  | false =>
   refine zG ⟨?_⟩
   by_cases h3:1024<O5 u v
   ·have ht:VQ u v=([],[]):=by unfold VQ wdB;rw [h1,h2,decide_eq_true h3];rfl
    refine fP (zA @hmx @hmx2) ⟨?_⟩
    refine dZ 0 [1,4] [4] (⟨[(4,.pref 0 [] 0)],[(0,.optr [.osl 1 0 [],.osl 4 0 []])],1⟩:St) rfl rfl ?_
    refine ae ?_
    exact ⟨_,_,rfl,rfl,by rw [ht];rfl⟩
   ·have ht:VQ u v=((List.replicate (O5 u v+1) false).set (O5 u v) true,wdA u v (O5 u v)):=by unfold VQ wdB;rw [h1,h2,decide_eq_false h3];rfl
    have hn1:((O5 u v:Int)+1).toNat=O5 u v+1:=by omega
    generalize hN:O5 u v=N at h3 hn1 hmx hmx2 ht
    refine fP (zA @hmx (zA @hmx2 @hn1)) ⟨?_⟩
    refine dZ 448 [1,4] [0,1,4,7,39,40] (⟨[(0,.sl u.length (HL.ints u)),(1,.sl v.length (HL.ints v)),(4,.pref 0 [] 0),(7,.pref 1 [] 0),(39,.int .i64 N),(40,.int .i64 0)],[(0,.optr [.nils,.nils]),(1,.optr [.osl 1 (N+1) (HL.bools ((List.replicate (N+1) false).set N true)),.osl 4 0 []])],2⟩:St) rfl rfl ?_
    refine aF [0,1,4,7,39,40] (fun k:Nat=>k<=N)
     (fun k=>⟨[(0,.sl u.length (HL.ints u)),(1,.sl v.length (HL.ints v)),(4,.pref 0 [] 0),(7,.pref 1 [] 0),(39,.int .i64 N),(40,.int .i64 k)],[(0,.optr [.nils,.nils]),(1,.optr [.osl 1 (N+1) (HL.bools ((List.replicate (N+1) false).set N true)),.osl 4 k (recs aC (wdA u v k))])],2⟩)
     (fun k=>N - k) 0 (by omega) rfl ?_
    intro k hk
    by_cases hkl:k<N
    ·have hst:=XD (u:=u) (v:=v) (k:=k)
     have hwl:=RP (u:=u) (v:=v) (k:=k)
     have t1:=V3 u k (by omega)
     have t2:=V3 v k (by omega)
     refine zF ⟨?_⟩
     refine jR [0,1,8] [] aA aA (fun _ args r=>r=.int .i64 (atD args)) (by simp [au,HV.deep,pX]) (by simp) ?_ (by rintro _ _ _ rfl fr;exact kJ)
     refine zF ⟨?_⟩
     refine fG aG bz t1 ⟨_,rfl,rfl⟩ ?_
     rintro _ rfl -
     refine zG ⟨?_⟩
     refine zF ⟨?_⟩
     refine fG aG bz t2 ⟨_,rfl,rfl⟩ ?_
     rintro _ rfl -
     refine zG ⟨?_⟩
     refine fP @PW ⟨?_⟩
     exact aV [0,1,4,7,39,40] (k+1) hkl (by omega) (by simp only [hst,PW,hwl];rfl)
    ·obtain rfl:k=N:=by omega
     refine zF ⟨?_⟩
     refine X0 af (by rfl) (by rfl) IB (by decide) (by simp only [tV,Ae];try rfl) ?_
     refine zF ⟨?_⟩
     refine ae ?_
     exact ⟨_,_,rfl,rfl,by rw [ht];simp only [Qr,RP,List.length_set,List.length_replicate];rfl⟩
end Go.Proofs.Ytlbdmpjnmfmnfaa
end
