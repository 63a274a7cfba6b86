import Derived.Test.YtlbdmpjnmfmnfaaFv6
import Derived.Test.YtlbdmpjnmfmnfaaFs2
set_option linter.unusedSimpArgs false
set_option linter.unusedVariables false
namespace Go.Proofs.Ytlbdmpjnmfmnfaa
set_option linter.unusedSimpArgs false
open Go.RowKit Go.HL Go.FS
set_option maxHeartbeats 8000000 in
theorem Og {k:List HI} [hp:Plain k] {rs:List Nat} {Kp:HV->Prop} (p q:Tn) (m:Nat) (B:List HV) (hv:okF p.1 p.2=true) (hq:okF q.1 q.2=true) (d:Int) (hd:0<=d/\d<=1000000) (L:List A) (hL:p.2.map (iV 0)++q.2.map (iV d)=L)
  (h:hx Try.prog (.c OL::k) (finish rs Kp) ⟨[(2,.pref 0 [] 0),(4,.pref 1 [] 0),(5,.int .i64 d),(6,.pref 2 [] 0)],[(0,.optr (fC p)),(1,.optr [.nils,.nils]),(2,.optr [.osl 1 m B,.osl 4 L.length (recs aC L)])],3⟩) :
  hx Try.prog (.c PR::k) (finish rs Kp) ⟨[(2,.pref 0 [] 0),(3,.pref 1 [] 0),(4,.pref 2 [] 0),(5,.int .i64 d),(6,.pref 3 [] 0)],[(0,.optr (fC p)),(1,.optr (fC q)),(2,.optr [.nils,.nils]),(3,.optr [.osl 1 m B,.osl 4 0 []])],4⟩:=by
 obtain ⟨p1,p2,p3⟩:=dR hv
 obtain ⟨q1,q2,q3⟩:=dR hq
 unfold PR
 refine ak ?_
 simp only [fC]
 refine vX DG aT ?_
 refine jJ (.agg [.sl p.1.length (HL.bools p.1),.sl p.2.length (recs aC p.2)]) _ rfl rfl ⟨Nat.le_of_ble_eq_true rfl,Nat.le_of_ble_eq_true rfl,rfl⟩ rfl aT ?_
 refine rG (vs:=[.int .i64 0]) (args:=[.int .i64 0]) rfl rfl rfl (vZ 0) ⟨_,rfl,rfl⟩ rfl ?_
 rintro _ rfl -
 refine ⟨by rfl,.fn 104 [.pref 20 [] 0],[.put 20 (.optr [.int .i64 0])],21,_,_,_,rfl,by simp [stride],rfl,by kernel_rfl,(by simp only [List.nil_append,nU,uU];rfl),?_⟩
 refine DF (vs:=[.nils,.agg [.sl p.1.length (HL.bools p.1),.sl p.2.length (recs aC p.2)],.fn 104 [.pref 20 [] 0]]) (args:=[.nils,.agg [.sl p.1.length (HL.bools p.1),.sl p.2.length (recs aC p.2)],.fn 104 [.optr [.int .i64 0]]]) (ut:=[.put 20 .dead]) rfl rfl rfl (by repeat (first|trivial|refine ⟨?_,?_⟩)) (aa0 p.1 p.2 0 hv ⟨by omega,by omega⟩) ⟨_,rfl,by simp [kR,HV.deep,fB,jB]⟩ rfl ?_
 rintro _ rfl -
 have e1:kR [.nils,.agg [.sl p.1.length (HL.bools p.1),.sl p.2.length (recs aC p.2)],.fn 104 [.optr [.int .i64 0]]]=.osl 4 (p.2.map (iV 0)).length (recs aC (p.2.map (iV 0))):=by
  simp only [kR,jB,List.length_map]
 rw [e1]
 have hR1:(p.2.map (iV 0)).length<=10000:=by simp;omega
 generalize p.2.map (iV 0)=R at hL hR1 ⊢
 refine ⟨.ref 36 [] 4 0 R.length,[.put 36 (.osl 4 R.length (recs aC R))],37,_,_,_,rfl,by simp [stride],rfl,by kernel_rfl,(by simp only [List.cons_append,List.nil_append,nU,uU];rfl),?_⟩
 refine jJ (.agg [.sl q.1.length (HL.bools q.1),.sl q.2.length (recs aC q.2)]) _ rfl rfl ⟨Nat.le_of_ble_eq_true rfl,Nat.le_of_ble_eq_true rfl,rfl⟩ rfl aT ?_
 refine jJ (.int .i64 d) _ rfl rfl (by trivial) rfl aT ?_
 refine rG (vs:=[.int .i64 d]) (args:=[.int .i64 d]) rfl rfl rfl (vZ d) ⟨_,rfl,rfl⟩ rfl ?_
 rintro _ rfl -
 refine ⟨by rfl,.fn 104 [.pref 84 [] 0],[.put 84 (.optr [.int .i64 d])],85,_,_,_,rfl,by simp [stride],rfl,by kernel_rfl,(by simp only [List.nil_append,nU,uU];rfl),?_⟩
 refine DF (vs:=[.ref 36 [] 4 0 R.length,.agg [.sl q.1.length (HL.bools q.1),.sl q.2.length (recs aC q.2)],.fn 104 [.pref 84 [] 0]]) (args:=[.osl 4 R.length (recs aC R),.agg [.sl q.1.length (HL.bools q.1),.sl q.2.length (recs aC q.2)],.fn 104 [.optr [.int .i64 d]]]) (ut:=[.put 36 .dead,.put 84 .dead]) rfl rfl rfl (by repeat (first|trivial|refine ⟨?_,?_⟩)) (Q3 R q.1 q.2 d hq hd (by omega)) ⟨_,rfl,by simp [kR,HV.deep,jv,fB,jB]⟩ rfl ?_
 rintro _ rfl -
 have e2:kR [.osl 4 R.length (recs aC R),.agg [.sl q.1.length (HL.bools q.1),.sl q.2.length (recs aC q.2)],.fn 104 [.optr [.int .i64 d]]]=.osl 4 L.length (recs aC L):=by
  rw [<- hL]
  simp only [kR,jB,kZ,List.length_append,List.length_map]
 rw [e2]
 refine ⟨.ref 100 [] 4 0 L.length,[.put 100 (.osl 4 L.length (recs aC L))],101,_,_,_,rfl,by simp [stride],rfl,by kernel_rfl,(by simp only [List.cons_append,List.nil_append,nU,uU];rfl),?_⟩
 refine jJ (.pref 3 [] 1) _ rfl rfl (by trivial) rfl aT ?_
 refine FD (side:=((0=0/\L.length=L.length)/\True)/\[HV.osl 4 L.length (recs aC L)].length=1/\0<1/\1+1<=2/\(false=true->cZ [HV.osl 4 L.length (recs aC L)]=true)) .dead [.put 100 .dead,.kill 3 0,.put 3 (.optr [.osl 1 m B,.osl 4 L.length (recs aC L)])] rfl rfl rfl ⟨⟨⟨rfl,rfl⟩,trivial⟩,rfl,Nat.zero_lt_one,Nat.le_refl _,fun h=>absurd h (by decide)⟩ rfl rfl aT kF ?_
 refine Ja rfl ?_
 exact dV [2,4,5,6] _ rfl h
def Yf:List HV->HV
 | [.int _ a,.int _ b]=>.agg (aC (jm a b))
 | _=>.dead
theorem Ji {args:List HV} {fr:Nat}:(unpack fr (Yf args)).1.inn F0:=by
 unfold Yf
 split
 ·intro x hx
  simp [unpack,bI,aC,HV.deep,bF] at hx
 ·intro x hx
  simp [unpack,HV.deep] at hx
theorem Jf {l:List Int} {i:Nat} (h:i<l.length) {f:Int->A}:(l.take (i+1)).map f=(l.take i).map f++[f (l.getD i 0)]:=by
 have:=dw h
 rw [this,List.map_append];rfl
set_option maxHeartbeats 8000000 in
theorem Jm (p q:Tn) (h1:p.1.length<=1000000000/\p.2.length<=1000000000) (h2:q.1.length<=1000000000/\q.2.length<=1000000000):HT Try.prog 30 [.agg (fC p),.agg (fC q)] (fun r=>r=.agg (fC (jg p q))):=by
 refine HT.ofC rfl ad9 [4] rfl (Nat.le_of_ble_eq_true rfl) ?_
 unfold c30
 have htg:=qP [p,q] (by simp) (by simp [h1,h2])
 have e0:recs fC [p,q]=[.sl p.1.length (HL.bools p.1),.sl p.2.length (recs aC p.2),.sl q.1.length (HL.bools q.1),.sl q.2.length (recs aC q.2)]:=rfl
 rw [e0] at htg
 have hw:win [HV.sl p.1.length (HL.bools p.1),.sl p.2.length (recs aC p.2),.sl q.1.length (HL.bools q.1),.sl q.2.length (recs aC q.2)] 0 (2*2)=[.sl p.1.length (HL.bools p.1),.sl p.2.length (recs aC p.2),.sl q.1.length (HL.bools q.1),.sl q.2.length (recs aC q.2)]:=rfl
 have hst:stripL [HV.sl p.1.length (HL.bools p.1),.sl p.2.length (recs aC p.2),.sl q.1.length (HL.bools q.1),.sl q.2.length (recs aC q.2)]=[.sl p.1.length (HL.bools p.1),.sl p.2.length (recs aC p.2),.sl q.1.length (HL.bools q.1),.sl q.2.length (recs aC q.2)]:=by simp [stripL,HV.strip,HL.bools_strip,jf]
 simp only [aY,Nat.reduceAdd,fC]
 repeat (first|refine af ?_|refine ak ?_|refine ae ?_|refine fJ ?_|refine bQ ?_|refine dU ?_|refine bP eH ?_)
 refine bY bz (by simp (disch:=omega) only [dI,hw,hst,HV.thaw,dA,aG,aJ,if_true,if_false,reduceIte,Nat.reduceEqDiff,stripL,HV.strip,iD,iJ,Nat.mul_one,List.cons_append,List.nil_append,List.append_nil,I,Bl,T3,List.getD_cons_zero,List.getD_cons_succ,HL.ints_strip,HL.bools_strip,iW];try rfl) (htg) ?_
 rintro _ rfl
 cases hv:pU [p,q] with
 | false =>
  have ho:jg p q=([],[]):=by unfold jg;rw [hv];rfl
  refine ⟨bG,_,_,_,_,_,fU,(by decide),bu,?_⟩
  repeat (first|refine af ?_|refine ax ?_|refine ak ?_|refine ae ?_|refine iI (by rfl) ?_|refine cO ?_|refine di ?_)
  refine fD 32 [1,4] [4] (⟨[(4,.pref 0 [] 0)],[(0,.optr [.osl 1 0 [],.osl 4 0 []])],1⟩:St) rfl rfl ?_
  refine jR 0 [4] ⟨[(4,.pref 0 [] 0)],[(0,.optr [.sl 0 [],.sl 0 []])],1⟩ rfl rfl ?_
  refine ay ?_
  exact ⟨_,_,rfl,rfl,by rw [ho];rfl⟩
 | true =>
  obtain ⟨hp,hq,hs1,hs2⟩:=Ho hv
  have hcc:=Aq [List.replicate p.1.length false,q.1] (by simp) (by simp;omega)
  have eb:bR [List.replicate p.1.length false,q.1]=[.sl p.1.length (HL.bools (List.replicate p.1.length false)),.sl q.1.length (HL.bools q.1)]:=by
   show [HV.sl (List.replicate p.1.length false).length _,_]=_
   rw [List.length_replicate]
  have ef:[List.replicate p.1.length false,q.1].flatten=List.replicate p.1.length false++q.1:=by simp
  have hnl:(List.replicate p.1.length false++q.1).length=p.1.length+q.1.length:=by simp
  rw [eb,ef,hnl] at hcc
  have hnt:(p.1.length:Int).toNat=p.1.length:=by omega
  have hw3:win [HV.osl 1 p.1.length (HL.bools (List.replicate p.1.length false)),.sl q.1.length (HL.bools q.1)] 0 (2*1)=[HV.osl 1 p.1.length (HL.bools (List.replicate p.1.length false)),.sl q.1.length (HL.bools q.1)]:=rfl
  have hst3:stripL [HV.osl 1 p.1.length (HL.bools (List.replicate p.1.length false)),.sl q.1.length (HL.bools q.1)]=[.sl p.1.length (HL.bools (List.replicate p.1.length false)),.sl q.1.length (HL.bools q.1)]:=by simp [stripL,HV.strip,HL.bools_strip]
  obtain ⟨B,hB⟩:∃B,List.replicate p.1.length false++q.1=B:=⟨_,rfl⟩
  rw [hB] at hcc hnl
  rw [<- hnl] at hcc
  have hfl:=nO p.1 p.1.length
  have hfi:∀i∈jS p.1 p.1.length,0<=i/\i<p.1.length:=fun i hi=>by
   obtain ⟨h1,h2⟩:=mem_finL.1 hi
   refine ⟨h1,?_⟩
   by_cases h:i.toNat<p.1.length
   ·omega
   ·rw [List.getD_eq_getElem?_getD,List.getElem?_eq_none (by omega)] at h2;cases h2
  refine ⟨bG,_,_,_,_,_,fU,(by decide),bu,?_⟩
  repeat (first|refine ah ?_|refine aZ ?_|refine af ?_|refine aQ ?_|refine au ?_|refine ak ?_|refine ae ?_|refine aF ?_|refine gW (by rfl) ?_|refine aI ?_)
  refine gu aT aT (fun _ _ r=>r=.osl 1 B.length (HL.bools B)) ?_
  repeat (first|refine ah ?_|refine gJ (by rfl) bV (by (try simp (disch:=omega) only [go_sem,reduceIte,Nat.reduceEqDiff,Nat.reduceAdd,Nat.reduceMul,hnt]);try rfl) aW (by (try simp (disch:=omega) only [go_sem,hnt]);try rfl) aV ?_|refine aI ?_|refine uw eH bz aP jG (by simp) (by rfl) (by rfl) (by rfl) ?_|refine qU eH (by rfl) (by omega) aP aP ?_)
  refine dO bz (by simp (disch:=omega) only [dI,hw3,hst3,HV.thaw,dA,aG,aJ,if_true,if_false,reduceIte,Nat.reduceEqDiff,stripL,HV.strip,iD,iJ,Nat.mul_one,List.cons_append,List.nil_append,List.append_nil,I,Bl,T3,List.getD_cons_zero,List.getD_cons_succ,HL.ints_strip,HL.bools_strip,iW];try rfl) hcc ⟨_,rfl,by simp [HV.deep,fM]⟩ ?_
  rintro _ rfl -
  refine ⟨bG,_,_,_,_,_,fU,(by decide),bu,?_⟩
  repeat (first|refine af ?_|refine cO ?_|refine bP eH ?_|refine di ?_)
  refine fD 304 [1,4] [2,3,4,5,6] (⟨[(2,.pref 0 [] 0),(3,.pref 1 [] 0),(4,.pref 2 [] 0),(5,.int .i64 p.1.length),(6,.pref 3 [] 0)],[(0,.optr (fC p)),(1,.optr (fC q)),(2,.optr [.nils,.nils]),(3,.optr [.osl 1 B.length (HL.bools B),.osl 4 0 []])],4⟩:St) rfl rfl ?_
  obtain ⟨L,hL⟩:∃L,p.2.map (iV 0)++q.2.map (iV (p.1.length:Int))=L:=⟨_,rfl⟩
  have hLl:L.length<=6000:=by rw [<- hL];simp;omega
  have ho:jg p q=(B,L++(jS p.1 p.1.length).map fun i=>jm i p.1.length):=by unfold jg;rw [if_pos hv,<- hL,<- hB]
  refine Og (k:=[]) p q B.length (HL.bools B) hp hq p.1.length (by omega) L hL ?_
  clear hL hcc htg
  have hfin:=tV p.1 (by omega)
  generalize hF:jS p.1 p.1.length=Fl at hfin hfl hfi ho
  unfold OL
  simp only [fC]
  repeat (first|refine aZ ?_|refine ak ?_|refine ae ?_|refine aI ?_)
  refine bY bz bW (hfin) ?_
  rintro _ rfl
  refine ⟨bG,_,_,_,_,_,fU,(by decide),bu,?_⟩
  repeat (first|refine ah ?_|refine af ?_|refine fF (by rfl) ?_|refine aB ?_)
  refine bg 35 [4,5,6,35,36,37] ⟨[(4,.pref 0 [] 0),(5,.int .i64 p.1.length),(6,.pref 1 [] 0),(35,.sl Fl.length (stripL (win (HL.ints Fl) 0 (Fl.length*1)))),(36,.int .i64 Fl.length),(37,.int .i64 0)],[(0,.optr [.nils,.nils]),(1,.optr [.osl 1 B.length (HL.bools B),.osl 4 L.length (recs aC L)])],2⟩ rfl ?_
  rw [show stripL (win (HL.ints Fl) 0 (Fl.length*1))=HL.ints Fl by rw [jc _ (by simp [HL.ints]),HL.ints_strip]]
  refine cu [4,5,6,35,36,37] (fun i:Nat=>i<=Fl.length)
   (fun i=>⟨[(4,.pref 0 [] 0),(5,.int .i64 p.1.length),(6,.pref 1 [] 0),(35,.sl Fl.length (HL.ints Fl)),(36,.int .i64 Fl.length),(37,.int .i64 i)],[(0,.optr [.nils,.nils]),(1,.optr [.osl 1 B.length (HL.bools B),.osl 4 (L++(Fl.take i).map fun i=>jm i p.1.length).length (recs aC (L++(Fl.take i).map fun i=>jm i p.1.length))])],2⟩)
   (fun i=>Fl.length - i) 0 (by omega) (by simp;rfl) ?_
  intro i hi
  have hRl:(L++(Fl.take i).map fun i=>jm i p.1.length).length<=10000:=by rw [List.length_append,List.length_map,List.length_take];omega
  by_cases hil:i<Fl.length
  ·have hst:L++(Fl.take (i+1)).map (fun i=>jm i p.1.length)=(L++(Fl.take i).map fun i=>jm i p.1.length)++[jm (Fl.getD i 0) p.1.length]:=by rw [Jf hil,List.append_assoc]
   generalize hQ:(L++(Fl.take i).map fun i=>jm i p.1.length)=Q at hst hRl ⊢
   have hj:=vk (Fl.getD i 0) p.1.length
   repeat (first|refine ah ?_|refine aU ?_|refine bZ ?_|refine af ?_|refine az ?_|refine ax ?_|refine ak ?_|refine ae ?_|refine aB ?_|refine aF ?_)
   refine jP [5,8] [] aT aT (fun _ args r=>r=Yf args) (by simp [aG,HV.deep]) (by simp) ?_ (by rintro _ _ _ rfl fr;exact Ji)
   repeat (first|refine ah ?_|refine aZ ?_|refine aI ?_)
   refine dO bz bW hj ⟨_,rfl,rfl⟩ ?_
   rintro _ rfl -
   simp only [Yf,jm,aC]
   refine ⟨bG,_,_,_,_,_,fU,(by decide),bu,?_⟩
   repeat (first|refine ah ?_|refine af ?_|refine bH ?_|refine ae ?_|refine fK ?_|refine aI ?_|refine cO ?_|refine bQ ?_|refine gV ?_)
   refine dB [4,5,6,35,36,37] (i+1) hil (by omega) ?_
   simp only [jm] at hst
   rw [hst]
   simp only [List.length_append,List.length_singleton]
   rfl
  ·obtain rfl:i=Fl.length:=by omega
   rw [List.take_length] at hRl ⊢
   have hQ:=ho
   generalize L++Fl.map (fun i=>jm i p.1.length)=Q at hQ hRl ⊢
   refine ak ?_
   refine ae ?_
   repeat (first|refine af ?_|refine az ?_)
   refine ak ?_
   refine au ?_
   refine bK (by rfl) ?_
   refine bg 1 [4,6] ⟨[(4,.pref 0 [] 0),(6,.ptr (stripL [.osl 1 B.length (HL.bools B),.osl 4 Q.length (recs aC Q)]) 0)],[(0,.optr [.nils,.nils])],1⟩ rfl ?_
   rw [jd]
   repeat (first|refine af ?_|refine ak ?_|refine ae ?_|refine bn ?_|refine cO ?_)
   refine ay ?_
   exact ⟨_,_,rfl,rfl,by rw [hQ];rfl⟩
end Go.Proofs.Ytlbdmpjnmfmnfaa
