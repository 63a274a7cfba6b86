import Derived.Test.YtlbdmpjnmfmnfaaHl5
set_option linter.unusedSimpArgs false
set_option linter.unusedVariables false
namespace Go.HL
open Go.RowKit
section
variable {P:Program} {E:Fr} {N fr:Nat} {sl st:Lk} {loc:Nat->Value} {fp:Nat->List Nat} {a:Act} {w:World}
theorem aab (hr:Rel E N sl st loc fp a w) (hfr:N<=fr) {t:TypeId} {d:TypeDesc} {i:TypeInfo} (hd:P.underlying t=some d) (hi:P.info? t=some i) (hA:gz d=true) {id:Nat} {cs:List HV} {rv:Value}
  (hv:OW (fA E fp w) w.heap (RefR N st loc w.heap) [.pref id [] 0] [rv] []) (hst:st id=.optr cs) (hl:cs.length=i.size) :
  ∃r,(Instr.loadAt t rv).run P w=.ok r w/\fr<=(bf fr cs).2.2/\After E (bf fr cs).2.2 sl st (.put id .dead::(bf fr cs).2.1) (.agg (bf fr cs).1) r a w:=by
 obtain ⟨hid,-,-,hn⟩:=nM hv
 have hdd:st id≠.dead:=by rw [hst];simp
 obtain ⟨rvn,g',o',b1,b2,b3⟩:=hn (by rw [aG,hst];trivial)
 simp only [dM,Option.some.injEq] at b1
 subst b1
 have htr:=hr.tree id hdd
 rw [hst] at htr
 obtain ⟨g,cur,e,f1,hloc,hfp,hg,how⟩:∃g cur e f1,loc id=.pointer (some ⟨g,0,none⟩)/\fp id=g::f1/\w.heap[g]?=some (.cells cur e (0,0))/\OW (fA E fp w) w.heap dU cs cur.toList f1:=by
  generalize loc id=lv at htr
  generalize fp id=fs at htr
  cases htr with
  | leaf _ _ h3=>exact absurd rfl (h3.1 _)
  | @optr _ _ g cur e f1 _ _ _ h1 h2 h3 =>
   cases h3
   exact ⟨g,cur,e,f1,rfl,by simp,h1,h2⟩
 rw [hloc] at b2
 simp only [jd,Option.some.injEq,Prod.mk.injEq] at b2
 obtain ⟨rfl,rfl⟩:=b2
 subst b3
 obtain ⟨r,hrun,ho⟩:=DK hd hi hg how hl (by rw [hA];simp)
 rw [hA,if_pos rfl] at ho
 have hnd0:=hr.nodup id
 rw [hfp] at hnd0
 have hnd:f1.Nodup:=(List.nodup_cons.1 hnd0).2
 have hf1:∀b∈f1,b∈fp id:=fun b hb=>by rw [hfp];simp [hb]
 have u:=ho.unpack (fun _ _ h=>h) fr hnd
 have hu:bf fr [.agg cs]=([.agg (bf fr cs).1],(bf fr cs).2.1,(bf fr cs).2.2):=by simp [bf,unpack]
 rw [hu] at u
 obtain ⟨T,l,p,a1,b1,c1,d1,e1,g1⟩:=u
 simp only at a1 b1 c1 d1 e1 g1
 refine ⟨r,by simp only [Instr.loadAt,Instr.sureAddr,Nat.add_zero,Sem.run_bind,Sem.run_pure,Result.andThen_ok];exact hrun,a1,?_⟩
 generalize (bf fr cs).2.2=n2 at *
 generalize (bf fr cs).2.1=us at *
 generalize (bf fr cs).1=vs at *
 have hidf:¬ (fr<=id/\id<n2):=by omega
 have hup:∀k,Lk.upd st (.put id .dead::us) k=if fr<=k/\k<n2 then T k else if k=id then .dead else st k:=fun k=>by
  simp only [Lk.upd]
  rw [b1]
 have main:=hr.step (fun _=>True) hr.all (fun k=>k=id\/(fr<=k/\k<n2)) (N':=n2) (st':=Lk.upd st (.put id .dead::us)) (loc':=fun k=>if fr<=k/\k<n2 then l k else loc k) (fp':=fun k=>if fr<=k/\k<n2 then p k else if k=id then [] else fp k) (w':=w) (by omega) (Nat.le_refl _) rfl rfl rfl (fun _ _ _=>rfl) ?_ ?_ ?_ ?_ ?_ ?_ ?_ ?_
 ·refine ⟨_,_,by rw [show qB sl (.put id .dead::us)=sl from c1 sl];exact main.1,?_⟩
  have:=g1 n2 (Lk.upd st (.put id .dead::us)) (fun k=>if fr<=k/\k<n2 then l k else loc k) (Nat.le_refl _) (fun k h1 h2=>⟨by rw [hup,if_pos ⟨h1,h2⟩],by simp [h1,h2]⟩)
  exact this.stable (by simp) (fun b hb'=>⟨(main.2.1 b hb').1,rfl⟩) (fun _ _ h=>h)
 ·intro k hk
  simp only [not_or] at hk
  exact ⟨by rw [hup,if_neg hk.2,if_neg hk.1],by simp only [if_neg hk.2],by simp only [if_neg hk.2,if_neg hk.1]⟩
 ·intro hfz k hk hkd
  rw [hup] at hkd ⊢
  by_cases h:fr<=k/\k<n2
  ·obtain ⟨h1,h2,h3,h4⟩:=d1 k h.1 h.2
   simp only [h,and_self,if_true]
   exact h2.stable (fun _ _=>rfl) (fun b hb'=>⟨(hfz b hb').1,rfl⟩) (fun _ _ h=>h)
  ·rcases hk with rfl|hk
   ·rw [if_neg h,if_pos rfl] at hkd;exact absurd rfl hkd
   ·exact absurd hk h
 ·intro k hk hkd
  rw [hup] at hkd
  by_cases h:fr<=k/\k<n2
  ·rw [if_pos h] at hkd;exact absurd hkd (d1 k h.1 h.2).1
  ·rcases hk with rfl|hk
   ·simp only [if_neg h,if_true]
   ·exact absurd hk h
 ·intro k hk hge
  have h:¬ (fr<=k/\k<n2):=by omega
  rcases hk with rfl|hk
  ·omega
  ·exact absurd hk h
 ·intro k hk b hb
  by_cases h:fr<=k/\k<n2
  ·simp only [h,and_self,if_true] at hb
   exact .inr ⟨id,.inl rfl,hf1 b ((d1 k h.1 h.2).2.2.2 b hb)⟩
  ·rcases hk with rfl|hk
   ·simp only [if_neg h,if_true] at hb;cases hb
   ·exact absurd hk h
 ·intro k hk
  by_cases h:fr<=k/\k<n2
  ·simp only [h,and_self,if_true];exact (d1 k h.1 h.2).2.2.1
  ·rcases hk with rfl|hk
   ·simp only [if_neg h,if_true];exact .nil
   ·exact absurd hk h
 ·intro j k hj hk hjk b hb hb'
  by_cases h1:fr<=j/\j<n2
  ·by_cases h2:fr<=k/\k<n2
   ·simp only [h1,and_self,if_true] at hb
    simp only [h2,and_self,if_true] at hb'
    exact e1 j k h1.1 h1.2 h2.1 h2.2 hjk b hb hb'
   ·rcases hk with rfl|hk
    ·simp only [if_neg h2,if_true] at hb';cases hb'
    ·exact h2 hk
  ·rcases hj with rfl|hj
   ·simp only [if_neg h1,if_true] at hb;cases hb
   ·exact h1 hj
 ·intro v rv' k hv' _ hk hX
  obtain ⟨k',hk',hlt⟩:=hv'.isRef
  rw [hk] at hk'
  cases hk'
  have hkid:k=id:=by
   rcases hX with h|h
   ·exact h
   ·omega
  subst hkid
  have hdead:Lk.upd st (.put k .dead::us) k=.dead:=by rw [hup,if_neg hidf,if_pos rfl]
  cases v<;>simp only [fE,Option.some.injEq,reduceCtorEq] at hk
  ·subst hk
   obtain ⟨x1,x2,x0,x4,x3⟩:=hv'
   exact ⟨by omega,x2,x0,fun cs' h=>(by rw [hdead,iJ] at h;exact HV.noConfusion h),fun sz' m cs' h=>(by rw [hdead,iJ] at h;exact HV.noConfusion h)⟩
  ·subst hk
   obtain ⟨x1,x2,x0,x3⟩:=hv'
   exact ⟨by omega,x2,x0,fun h=>by rw [hdead,iJ] at h;exact h.elim⟩
  ·subst hk
   obtain ⟨x1,x2,x0,x4,x3⟩:=hv'
   exact ⟨by omega,x2,x0,fun cs' h=>(by rw [hdead,iJ] at h;exact HV.noConfusion h),fun h=>by rw [hdead,iJ] at h;exact h.elim⟩
theorem Jm {P:Program} {o:Oper} {b:Bool} {sz:Nat} {x:HX} (h:aZ P o=.load b sz x):∃t y d i,o.op=.load t y/\P.underlying t=some d/\P.info? t=some i/\b=gz d/\sz=i.size/\x=eG y:=by
 unfold aZ at h
 repeat' split at h
 all_goals (first|(cases h;done)|(unfold rY at h;split at h<;>(cases h;done))|(unfold lN at h;split at h<;>(cases h;done))|skip)
 all_goals cases h
 exact ⟨_,_,_,_,‹_›,‹_›,‹_›,rfl,rfl,rfl⟩
theorem Nj {s:St} {i t sz id:Nat} {x:HX} {cs:List HV} {K:St->Prop} (hx:ev s.sl x=.pref id [] 0) (hst:aA id s.st=.optr cs) (hl:cs.length=sz) (hb:(bf (s.nx+stride*i) cs).2.2<=s.nx+stride*(i+1))
  (hK:K ((s.upd (.put id .dead::(bf (s.nx+stride*i) cs).2.1)).put (some t) (.agg (bf (s.nx+stride*i) cs).1))):mM P s i (some t) (.load true sz x) K:=by
 intro E ro a w next Q hd ho hr hn
 have hdst:ro.dst=some t:=hd
 have hop:aZ P ro=.load true sz x:=by
  unfold bn at ho
  by_cases h:(ro.dst.all fun d=>E.ok d)=true
  ·simpa [h] using ho
  ·simp [h] at ho
 have hok:E.ok t=true:=by
  unfold bn at ho
  by_cases h:(ro.dst.all fun d=>E.ok d)=true
  ·simpa [hdst] using h
  ·simp [h] at ho
 obtain ⟨ty,y,d,inf,q1,q2,q3,q4,rfl,rfl⟩:=Jm hop
 obtain ⟨loc,fp,hr⟩:=hr
 have hv:=hr.val y
 rw [<- iq] at hv
 rw [hx] at hv
 obtain ⟨r,hrun,-,hA⟩:=aab (P:=P) hr (Nat.le_refl _) q2 q3 q4.symm hv hst hl
 have hdo:(execOp a.eval ro).run P w=.ok (.value r) w:=by
  obtain ⟨dst,op,type,pos,after,guard⟩:=ro
  simp only at q1
  subst q1
  simp only [execOp]
  simp [hrun]
 unfold Oper.wp
 rw [hdo]
 show next (a.put ro.dst r) w
 rw [hdst]
 have h3:=SRel.done (s:=s) (d:=some t) hA (fun t' ht=>by cases ht;exact hok)
 exact hn _ _ _ (by rw [St.put_nx,St.upd_nx]) (h3.up hb) hK
theorem KA {k:List HI} {all r:List aB} {i t sz id:Nat} {x:HX} {sl st sl' st':List (Nat×HV)} {nx n2:Nat} {rs:List Nat} {K:HV->Prop} [ok:Ok (HS P) k] {cs vs:List HV} {us:List Upd} (hx:ev sl x=.pref id [] 0) (hst:aA id st=.optr cs) (hl:cs.length=sz) (hu:bf (nx+stride*i) cs=(vs,us,n2)) (hb:n2<=nx+stride*(i+1))
  (hs:o8 (some t) (.agg vs) (kR sl ((id,.dead)::st) us)=(sl',st')) (h:G P (HS P) all r (i+1) k rs K sl' st' nx):G P (HS P) all (⟨some t,.load true sz x,none⟩::r) i k rs K sl st nx:=by
 refine mZ (Nj (s:=⟨sl,st,nx⟩) hx hst hl (by rw [hu];exact hb) ?_)
 rw [hu]
 exact ja ok.mono ok.plain (jO (us:=.put id .dead::us) hs) h
end
end Go.HL
