import Derived.Test.YtlbdmpjnmfmnfaaFv9
set_option linter.unusedSimpArgs false
set_option linter.unusedVariables false
namespace Go.Proofs.Ytlbdmpjnmfmnfaa
set_option linter.unusedSimpArgs false
set_option linter.unnecessarySimpa false
open Go.RowKit Go.HL Go.FS
set_option maxHeartbeats 8000000 in
theorem OQ {k:List HI} [hp:Plain k] {rs:List Nat} {Kp:HV->Prop} (p:Tn) (m:Nat) (B:List HV) (hv:okF p.1 p.2=true) (L:List A) (hL:[jm 0 1]++p.2.map (iV 1)=L)
  (h:hx Try.prog (.c Qn::k) (finish rs Kp) ⟨[(1,.pref 0 [] 0),(2,.pref 1 [] 0),(3,.pref 2 [] 0)],[(0,.optr (fC p)),(1,.optr [.nils,.nils]),(2,.optr [.osl 1 m B,.osl 4 L.length (recs aC L)])],3⟩) :
  hx Try.prog (.c Qa::k) (finish rs Kp) ⟨[(1,.pref 0 [] 0),(2,.pref 1 [] 0),(3,.pref 2 [] 0)],[(0,.optr (fC p)),(1,.optr [.nils,.nils]),(2,.optr [.osl 1 m B,.osl 4 0 []])],3⟩:=by
 obtain ⟨p1,p2,p3⟩:=dR hv
 unfold Qa
 refine ak ?_
 simp only [fC]
 refine vX DG aT ?_
 refine rG (vs:=[.int .i64 0,.int .i64 1]) (args:=[.int .i64 0,.int .i64 1]) rfl rfl rfl (vk 0 1) ⟨_,rfl,rfl⟩ rfl ?_
 rintro _ rfl -
 refine ⟨by rfl,.agg (aC (jm 0 1)),[],3,_,_,_,rfl,by simp [stride],rfl,by kernel_rfl,kF,?_⟩
 refine FD (.ref 19 [] 4 0 1) [.put 19 (.osl 4 1 (recs aC [jm 0 1]))] rfl rfl rfl (by refine ⟨?_,rfl,rfl⟩;repeat (first|trivial|refine ⟨?_,?_⟩)) rfl rfl aT kF ?_
 refine jJ (.agg [.sl p.1.length (HL.bools p.1),.sl p.2.length (recs aC p.2)]) _ rfl rfl ⟨Nat.le_of_ble_eq_true rfl,Nat.le_of_ble_eq_true rfl,rfl⟩ rfl aT ?_
 refine rG (vs:=[.int .i64 1]) (args:=[.int .i64 1]) rfl rfl rfl (vZ 1) ⟨_,rfl,rfl⟩ rfl ?_
 rintro _ rfl -
 refine ⟨by rfl,.fn 104 [.pref 51 [] 0],[.put 51 (.optr [.int .i64 1])],52,_,_,_,rfl,by simp [stride],rfl,by kernel_rfl,(by simp only [List.nil_append,nU,uU];rfl),?_⟩
 refine DF (vs:=[.ref 19 [] 4 0 1,.agg [.sl p.1.length (HL.bools p.1),.sl p.2.length (recs aC p.2)],.fn 104 [.pref 51 [] 0]]) (args:=[.osl 4 1 (recs aC [jm 0 1]),.agg [.sl p.1.length (HL.bools p.1),.sl p.2.length (recs aC p.2)],.fn 104 [.optr [.int .i64 1]]]) (ut:=[.put 19 .dead,.put 51 .dead]) rfl rfl rfl (by repeat (first|trivial|refine ⟨?_,?_⟩)) (Q3 [jm 0 1] p.1 p.2 1 hv ⟨by omega,by omega⟩ (by simp)) ⟨_,rfl,by simp [kR,HV.deep,jv,fB,jB]⟩ rfl ?_
 rintro _ rfl -
 have e1:kR [.osl 4 1 (recs aC [jm 0 1]),.agg [.sl p.1.length (HL.bools p.1),.sl p.2.length (recs aC p.2)],.fn 104 [.optr [.int .i64 1]]]=.osl 4 L.length (recs aC L):=by
  rw [<- hL]
  simp only [kR,jB,kZ,List.length_append,List.length_map,List.length_cons,List.length_nil]
 rw [e1]
 refine ⟨.ref 67 [] 4 0 L.length,[.put 67 (.osl 4 L.length (recs aC L))],68,_,_,_,rfl,by simp [stride],rfl,by kernel_rfl,(by simp only [List.cons_append,List.nil_append,nU,uU];rfl),?_⟩
 refine jJ (.pref 2 [] 1) _ rfl rfl (by trivial) rfl aT ?_
 refine FD (side:=((0=0/\L.length=L.length)/\True)/\[HV.osl 4 L.length (recs aC L)].length=1/\0<1/\1+1<=2/\(false=true->cZ [HV.osl 4 L.length (recs aC L)]=true)) .dead [.put 67 .dead,.kill 2 0,.put 2 (.optr [.osl 1 m B,.osl 4 L.length (recs aC L)])] rfl rfl rfl ⟨⟨⟨rfl,rfl⟩,trivial⟩,rfl,Nat.zero_lt_one,Nat.le_refl _,fun h=>absurd h (by decide)⟩ rfl rfl aT kF ?_
 refine Ja rfl ?_
 exact dV [1,2,3] _ rfl h
set_option maxHeartbeats 8000000 in
theorem JC (p:Tn) (h1:p.1.length<=1000000000/\p.2.length<=1000000000):HT Try.prog 34 [.agg (fC p)] (fun r=>r=.agg (fC (iF p))):=by
 refine HT.ofC rfl aek [2] rfl (Nat.le_of_ble_eq_true rfl) ?_
 unfold c34
 have htg:=qP [p] (by simp) (by simp [h1])
 have e0:recs fC [p]=[.sl p.1.length (HL.bools p.1),.sl p.2.length (recs aC p.2)]:=rfl
 rw [e0] at htg
 have hw:win [HV.sl p.1.length (HL.bools p.1),.sl p.2.length (recs aC p.2)] 0 (1*2)=[.sl p.1.length (HL.bools p.1),.sl p.2.length (recs aC p.2)]:=rfl
 have hst:stripL [HV.sl p.1.length (HL.bools p.1),.sl p.2.length (recs aC p.2)]=[.sl p.1.length (HL.bools p.1),.sl p.2.length (recs aC p.2)]:=by simp [stripL,HV.strip,HL.bools_strip,jf]
 simp only [aY,Nat.reduceAdd,fC]
 repeat (first|refine af ?_|refine ak ?_|refine ae ?_|refine fJ ?_|refine bQ ?_|refine dU ?_|refine bP eH ?_)
 refine bY bz (by simp (disch:=omega) only [dI,hw,hst,HV.thaw,dA,aG,aJ,if_true,if_false,reduceIte,Nat.reduceEqDiff,stripL,HV.strip,iD,iJ,Nat.mul_one,List.cons_append,List.nil_append,List.append_nil,I,Bl,T3,List.getD_cons_zero,List.getD_cons_succ,HL.ints_strip,HL.bools_strip,iW];try rfl) (htg) ?_
 rintro _ rfl
 cases hv:pU [p] with
 | false =>
  have ho:iF p=([],[]):=by unfold iF;rw [hv];rfl
  refine ⟨bG,_,_,_,_,_,fU,(by decide),bu,?_⟩
  repeat (first|refine af ?_|refine ax ?_|refine ak ?_|refine ae ?_|refine iI (by rfl) ?_|refine cO ?_|refine di ?_)
  refine fD 16 [1,4] [2] (⟨[(2,.pref 0 [] 0)],[(0,.optr [.osl 1 0 [],.osl 4 0 []])],1⟩:St) rfl rfl ?_
  refine jR 0 [2] ⟨[(2,.pref 0 [] 0)],[(0,.optr [.sl 0 [],.sl 0 []])],1⟩ rfl rfl ?_
  refine ay ?_
  exact ⟨_,_,rfl,rfl,by rw [ho];rfl⟩
 | true =>
  obtain ⟨hp,hs1,hs2⟩:=Vj hv
  have hnt:(1+(p.1.length:Int)).toNat=1+p.1.length:=by omega
  have hfl:=nO p.1 p.1.length
  have hfi:∀i∈jS p.1 p.1.length,0<=i/\i<p.1.length:=fun i hi=>by
   obtain ⟨h1,h2⟩:=mem_finL.1 hi
   refine ⟨h1,?_⟩
   by_cases h:i.toNat<p.1.length
   ·omega
   ·rw [List.getD_eq_getElem?_getD,List.getElem?_eq_none (by omega)] at h2;cases h2
  have hB0:(List.replicate (1+p.1.length) false).set 0 true=true::List.replicate p.1.length false:=by rw [Nat.add_comm,List.replicate_succ];rfl
  have hrl:(List.replicate (1+p.1.length) false).length=1+p.1.length:=List.length_replicate
  refine ⟨bG,_,_,_,_,_,fU,(by decide),bu,?_⟩
  repeat (first|refine af ?_|refine au ?_|refine ak ?_|refine ae ?_|refine aF ?_|refine gW (by rfl) ?_)
  repeat (first|refine gJ (by rfl) bV (by (try simp (disch:=omega) only [go_sem,reduceIte,Nat.reduceEqDiff,Nat.reduceAdd,Nat.reduceMul,hnt]);try rfl) aW (by (try simp (disch:=omega) only [go_sem,hnt]);try rfl) aV ?_|refine af ?_|refine jL (by rfl) (by rfl) (by (try simp (disch:=omega) only [go_sem,Int.reduceAdd,Int.reduceSub,Int.reduceMul,hnt]);try rfl) ?_|refine aQ ?_|refine aI ?_|refine lY (by rfl) aV aP jG mD (by rfl) mO (by rfl) mV (by (try simp (disch:=omega) only [go_sem,reduceIte,Nat.reduceEqDiff,Nat.reduceAdd,Nat.reduceMul,hnt]);try rfl) aW (by (try simp (disch:=omega) only [go_sem,hnt]);try rfl) aP jM ?_|refine bP eH ?_|refine qU eH (by rfl) (by omega) aP aP ?_|refine di ?_)
  refine fD 192 [1,4] [1,2,3] (⟨[(1,.pref 0 [] 0),(2,.pref 1 [] 0),(3,.pref 2 [] 0)],[(0,.optr (fC p)),(1,.optr [.nils,.nils]),(2,.optr [.osl 1 (1+p.1.length) (HL.bools (List.replicate (1+p.1.length) false)),.osl 4 0 []])],3⟩:St) rfl rfl ?_
  unfold Uw
  simp only [fC]
  refine ak ?_
  refine ae ?_
  repeat (first|refine gG ?_|refine aZ ?_|refine af ?_|refine aI ?_|refine dK ?_)
  obtain ⟨B,hB⟩:∃B,true::List.replicate p.1.length false=B:=⟨_,rfl⟩
  have hBl:1+p.1.length=B.length:=by rw [<- hB];simp;omega
  rw [hB0,hB,hBl]
  refine dV [1,2,3] (⟨[(1,.pref 0 [] 0),(2,.pref 1 [] 0),(3,.pref 2 [] 0)],[(0,.optr (fC p)),(1,.optr [.nils,.nils]),(2,.optr [.osl 1 B.length (HL.bools B),.osl 4 0 []])],3⟩:St) rfl ?_
  obtain ⟨L,hL⟩:∃L,[jm 0 1]++p.2.map (iV 1)=L:=⟨_,rfl⟩
  have hLl:L.length<=7000:=by rw [<- hL];simp;omega
  have ho:iF p=(B,L++(jS p.1 p.1.length).map fun i=>jm (i+1) 0):=by unfold iF;rw [if_pos hv,<- hL,<- hB]
  refine OQ (k:=[]) p B.length (HL.bools B) hp L hL ?_
  clear hL htg
  have hfin:=tV p.1 (by omega)
  generalize hF:jS p.1 p.1.length=Fl at hfin hfl hfi ho
  unfold Qn
  simp only [fC]
  repeat (first|refine aZ ?_|refine ak ?_|refine ae ?_|refine aI ?_)
  refine bY bz bW (hfin) ?_
  rintro _ rfl
  refine ⟨bG,_,_,_,_,_,fU,(by decide),bu,?_⟩
  repeat (first|refine ah ?_|refine af ?_|refine fF (by rfl) ?_|refine aB ?_)
  refine bg 35 [2,3,28,29,30] ⟨[(2,.pref 0 [] 0),(3,.pref 1 [] 0),(28,.sl Fl.length (stripL (win (HL.ints Fl) 0 (Fl.length*1)))),(29,.int .i64 Fl.length),(30,.int .i64 0)],[(0,.optr [.nils,.nils]),(1,.optr [.osl 1 B.length (HL.bools B),.osl 4 L.length (recs aC L)])],2⟩ rfl ?_
  rw [show stripL (win (HL.ints Fl) 0 (Fl.length*1))=HL.ints Fl by rw [jc _ (by simp [HL.ints]),HL.ints_strip]]
  refine cu [2,3,28,29,30] (fun i:Nat=>i<=Fl.length)
   (fun i=>⟨[(2,.pref 0 [] 0),(3,.pref 1 [] 0),(28,.sl Fl.length (HL.ints Fl)),(29,.int .i64 Fl.length),(30,.int .i64 i)],[(0,.optr [.nils,.nils]),(1,.optr [.osl 1 B.length (HL.bools B),.osl 4 (L++(Fl.take i).map fun i=>jm (i+1) 0).length (recs aC (L++(Fl.take i).map fun i=>jm (i+1) 0))])],2⟩)
   (fun i=>Fl.length - i) 0 (by omega) (by simp;rfl) ?_
  intro i hi
  have hRl:(L++(Fl.take i).map fun i=>jm (i+1) 0).length<=10000:=by rw [List.length_append,List.length_map,List.length_take];omega
  by_cases hil:i<Fl.length
  ·have hst:L++(Fl.take (i+1)).map (fun i=>jm (i+1) 0)=(L++(Fl.take i).map fun i=>jm (i+1) 0)++[jm (Fl.getD i 0+1) 0]:=by rw [Jf hil,List.append_assoc]
   generalize hQ:(L++(Fl.take i).map fun i=>jm (i+1) 0)=Q at hst hRl ⊢
   have hj:=vk (Fl.getD i 0+1) 0
   have hib:=hfi (Fl.getD i 0) (by rw [List.getD_eq_getElem?_getD,List.getElem?_eq_getElem hil];exact List.getElem_mem hil)
   repeat (first|refine ah ?_|refine aU ?_|refine bZ ?_|refine af ?_|refine az ?_|refine ax ?_|refine ak ?_|refine ae ?_|refine aB ?_|refine aF ?_)
   refine jP [5] [] aT aT (fun _ args r=>r=Yf args) (by simp [aG,HV.deep]) (by simp) ?_ (by rintro _ _ _ rfl fr;exact Ji)
   repeat (first|refine ah ?_|refine aZ ?_|refine bH ?_|refine aI ?_)
   refine dO bz bW hj ⟨_,rfl,rfl⟩ ?_
   rintro _ rfl -
   simp only [Yf,jm,aC]
   refine ⟨bG,_,_,_,_,_,fU,(by decide),bu,?_⟩
   repeat (first|refine ah ?_|refine af ?_|refine bH ?_|refine ae ?_|refine fK ?_|refine aI ?_|refine cO ?_|refine bQ ?_|refine gV ?_)
   refine dB [2,3,28,29,30] (i+1) hil (by omega) ?_
   simp only [jm] at hst
   rw [hst]
   simp only [List.length_append,List.length_singleton]
   rfl
  ·obtain rfl:i=Fl.length:=by omega
   rw [List.take_length] at hRl ⊢
   have hQ:=ho
   generalize L++Fl.map (fun i=>jm (i+1) 0)=Q at hQ hRl ⊢
   refine ak ?_
   refine ae ?_
   repeat (first|refine af ?_|refine az ?_)
   refine ak ?_
   refine au ?_
   refine bK (by rfl) ?_
   refine bg 1 [2,3] ⟨[(2,.pref 0 [] 0),(3,.ptr (stripL [.osl 1 B.length (HL.bools B),.osl 4 Q.length (recs aC Q)]) 0)],[(0,.optr [.nils,.nils])],1⟩ rfl ?_
   rw [jd]
   repeat (first|refine af ?_|refine ak ?_|refine ae ?_|refine bn ?_|refine cO ?_)
   refine ay ?_
   exact ⟨_,_,rfl,rfl,by rw [hQ];rfl⟩
end Go.Proofs.Ytlbdmpjnmfmnfaa
