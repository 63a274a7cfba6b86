import Derived.Test.YtlbdmpjnmfmnfaaFv6
import Derived.Test.YtlbdmpjnmfmnfaaFw4
set_option linter.unusedSimpArgs false
set_option linter.unusedVariables false
namespace Go.Proofs.Ytlbdmpjnmfmnfaa
set_option linter.unusedSimpArgs false
open Go.RowKit Go.HL Go.FS
set_option maxHeartbeats 8000000 in
theorem L8 {k:List HI} [hp:Plain k] {rs:List Nat} {Kp:HV->Prop} (p q:Tn) (m:Nat) (B:List HV) (hv:okF p.1 p.2=true) (hq:okF q.1 q.2=true) (d:Int) (hd:0<=d/\d<=1000000) (L:List A) (hL:p.2.map (nX 0)++q.2.map (nX d)=L)
  (h:hx Try.prog (.c KJ::k) (finish rs Kp) ⟨[(2,.pref 0 [] 0),(4,.pref 1 [] 0),(5,.int .i64 d),(6,.pref 2 [] 0)],[(0,.optr (fC p)),(1,.optr [.nils,.nils]),(2,.optr [.osl 1 m B,.osl 4 L.length (recs aC L)])],3⟩) :
  hx Try.prog (.c J8::k) (finish rs Kp) ⟨[(2,.pref 0 [] 0),(3,.pref 1 [] 0),(4,.pref 2 [] 0),(5,.int .i64 d),(6,.pref 3 [] 0)],[(0,.optr (fC p)),(1,.optr (fC q)),(2,.optr [.nils,.nils]),(3,.optr [.osl 1 m B,.osl 4 0 []])],4⟩:=by
 obtain ⟨p1,p2,p3⟩:=gm hv
 obtain ⟨q1,q2,q3⟩:=gm hq
 unfold J8
 refine ak ?_
 simp only [fC]
 refine xN DG bC ?_
 refine jy (.agg [.sl p.1.length (HL.bools p.1),.sl p.2.length (recs aC p.2)]) _ rfl rfl ⟨Nat.le_of_ble_eq_true rfl,Nat.le_of_ble_eq_true rfl,rfl⟩ rfl bC ?_
 refine uP (vs:=[.int .i64 0]) (args:=[.int .i64 0]) rfl rfl rfl (wL 0) ⟨_,rfl,rfl⟩ rfl ?_
 rintro _ rfl -
 refine ⟨by rfl,.fn 104 [.pref 20 [] 0],[.put 20 (.optr [.int .i64 0])],21,_,_,_,rfl,by simp [stride],rfl,by kernel_rfl,(by simp only [List.nil_append,kR,o8];rfl),?_⟩
 refine F5 (vs:=[.nils,.agg [.sl p.1.length (HL.bools p.1),.sl p.2.length (recs aC p.2)],.fn 104 [.pref 20 [] 0]]) (args:=[.nils,.agg [.sl p.1.length (HL.bools p.1),.sl p.2.length (recs aC p.2)],.fn 104 [.optr [.int .i64 0]]]) (ut:=[.put 20 .dead]) rfl rfl rfl (by repeat (first|trivial|refine ⟨?_,?_⟩)) (Yo p.1 p.2 0 hv ⟨by omega,by omega⟩) ⟨_,rfl,by simp [lq,HV.deep,kN,jK]⟩ rfl ?_
 rintro _ rfl -
 have e1:lq [.nils,.agg [.sl p.1.length (HL.bools p.1),.sl p.2.length (recs aC p.2)],.fn 104 [.optr [.int .i64 0]]]=.osl 4 (p.2.map (nX 0)).length (recs aC (p.2.map (nX 0))):=by
  simp only [lq,jK,List.length_map]
 rw [e1]
 have hR1:(p.2.map (nX 0)).length<=10000:=by simp;omega
 generalize p.2.map (nX 0)=R at hL hR1 ⊢
 refine ⟨.ref 36 [] 4 0 R.length,[.put 36 (.osl 4 R.length (recs aC R))],37,_,_,_,rfl,by simp [stride],rfl,by kernel_rfl,(by simp only [List.cons_append,List.nil_append,kR,o8];rfl),?_⟩
 refine jy (.agg [.sl q.1.length (HL.bools q.1),.sl q.2.length (recs aC q.2)]) _ rfl rfl ⟨Nat.le_of_ble_eq_true rfl,Nat.le_of_ble_eq_true rfl,rfl⟩ rfl bC ?_
 refine jy (.int .i64 d) _ rfl rfl (by trivial) rfl bC ?_
 refine uP (vs:=[.int .i64 d]) (args:=[.int .i64 d]) rfl rfl rfl (wL d) ⟨_,rfl,rfl⟩ rfl ?_
 rintro _ rfl -
 refine ⟨by rfl,.fn 104 [.pref 84 [] 0],[.put 84 (.optr [.int .i64 d])],85,_,_,_,rfl,by simp [stride],rfl,by kernel_rfl,(by simp only [List.nil_append,kR,o8];rfl),?_⟩
 refine F5 (vs:=[.ref 36 [] 4 0 R.length,.agg [.sl q.1.length (HL.bools q.1),.sl q.2.length (recs aC q.2)],.fn 104 [.pref 84 [] 0]]) (args:=[.osl 4 R.length (recs aC R),.agg [.sl q.1.length (HL.bools q.1),.sl q.2.length (recs aC q.2)],.fn 104 [.optr [.int .i64 d]]]) (ut:=[.put 36 .dead,.put 84 .dead]) rfl rfl rfl (by repeat (first|trivial|refine ⟨?_,?_⟩)) (QS R q.1 q.2 d hq hd (by omega)) ⟨_,rfl,by simp [lq,HV.deep,jo,kN,jK]⟩ rfl ?_
 rintro _ rfl -
 have e2:lq [.osl 4 R.length (recs aC R),.agg [.sl q.1.length (HL.bools q.1),.sl q.2.length (recs aC q.2)],.fn 104 [.optr [.int .i64 d]]]=.osl 4 L.length (recs aC L):=by
  rw [<- hL]
  simp only [lq,jK,lD,List.length_append,List.length_map]
 rw [e2]
 refine ⟨.ref 100 [] 4 0 L.length,[.put 100 (.osl 4 L.length (recs aC L))],101,_,_,_,rfl,by simp [stride],rfl,by kernel_rfl,(by simp only [List.cons_append,List.nil_append,kR,o8];rfl),?_⟩
 refine jy (.pref 3 [] 1) _ rfl rfl (by trivial) rfl bC ?_
 refine Hz (side:=((0=0/\L.length=L.length)/\True)/\[HV.osl 4 L.length (recs aC L)].length=1/\0<1/\1+1<=2/\(false=true->bW [HV.osl 4 L.length (recs aC L)]=true)) .dead [.put 100 .dead,.kill 3 0,.put 3 (.optr [.osl 1 m B,.osl 4 L.length (recs aC L)])] rfl rfl rfl ⟨⟨⟨rfl,rfl⟩,trivial⟩,rfl,Nat.zero_lt_one,Nat.le_refl _,fun h=>absurd h (by decide)⟩ rfl rfl bC (by simp only [kR,o8];rfl) ?_
 refine MZ rfl ?_
 exact dR [2,4,5,6] _ rfl h
def ZE:List HV->HV
 | [.int _ a,.int _ b]=>.agg (aC (jm a b))
 | _=>.dead
theorem Po {args:List HV} {fr:Nat}:(unpack fr (ZE args)).1.inn F0:=by
 unfold ZE
 split
 ·intro x hx
  simp [unpack,bf,aC,HV.deep,bg] at hx
 ·intro x hx
  simp [unpack,HV.deep] at hx
theorem Pe {l:List Int} {i:Nat} (h:i<l.length) {f:Int->A}:(l.take (i+1)).map f=(l.take i).map f++[f (l.getD i 0)]:=by
 have:=dC h
 rw [this,List.map_append];rfl
set_option maxHeartbeats 8000000 in
theorem PL (p q:Tn) (h1:p.1.length<=1000000000/\p.2.length<=1000000000) (h2:q.1.length<=1000000000/\q.2.length<=1000000000):HT Try.prog 30 [.agg (fC p),.agg (fC q)] (fun r=>r=.agg (fC (lU p q))):=by
 refine HT.ofC rfl ZU [4] rfl (Nat.le_of_ble_eq_true rfl) ?_
 unfold c30
 have htg:=vX [p,q] (by simp) (by simp [h1,h2])
 have e0:recs fC [p,q]=[.sl p.1.length (HL.bools p.1),.sl p.2.length (recs aC p.2),.sl q.1.length (HL.bools q.1),.sl q.2.length (recs aC q.2)]:=rfl
 rw [e0] at htg
 have hw:win [HV.sl p.1.length (HL.bools p.1),.sl p.2.length (recs aC p.2),.sl q.1.length (HL.bools q.1),.sl q.2.length (recs aC q.2)] 0 (2*2)=[.sl p.1.length (HL.bools p.1),.sl p.2.length (recs aC p.2),.sl q.1.length (HL.bools q.1),.sl q.2.length (recs aC q.2)]:=rfl
 have hst:stripL [HV.sl p.1.length (HL.bools p.1),.sl p.2.length (recs aC p.2),.sl q.1.length (HL.bools q.1),.sl q.2.length (recs aC q.2)]=[.sl p.1.length (HL.bools p.1),.sl p.2.length (recs aC p.2),.sl q.1.length (HL.bools q.1),.sl q.2.length (recs aC q.2)]:=by simp [stripL,HV.strip,HL.bools_strip,iR]
 simp only [aY,Nat.reduceAdd,fC]
 repeat (first|refine af ?_|refine ak ?_|refine ae ?_|refine gq ?_|refine cO ?_|refine dX ?_|refine bI dZ ?_)
 refine bT bH (by simp (disch:=omega) only [cZ,hw,hst,HV.thaw,bV,aA,aG,if_true,if_false,reduceIte,Nat.reduceEqDiff,stripL,HV.strip,gu,fF,Nat.mul_one,List.cons_append,List.nil_append,List.append_nil,I,Bl,T3,List.getD_cons_zero,List.getD_cons_succ,HL.ints_strip,HL.bools_strip,fP];try rfl) (htg) ?_
 rintro _ rfl
 cases hv:zX [p,q] with
 | false =>
  have ho:lU p q=([],[]):=by unfold lU;rw [hv];rfl
  refine ⟨bJ,_,_,_,_,_,gY,(by decide),bF,?_⟩
  repeat (first|refine af ?_|refine ax ?_|refine ak ?_|refine ae ?_|refine jC (by rfl) ?_|refine dH ?_|refine bY ?_)
  refine fJ 32 [1,4] [4] (⟨[(4,.pref 0 [] 0)],[(0,.optr [.osl 1 0 [],.osl 4 0 []])],1⟩:St) rfl rfl ?_
  refine nO 0 [4] ⟨[(4,.pref 0 [] 0)],[(0,.optr [.sl 0 [],.sl 0 []])],1⟩ rfl rfl ?_
  refine ay ?_
  exact ⟨_,_,rfl,rfl,by rw [ho];rfl⟩
 | true =>
  obtain ⟨hp,hq,hs1,hs2⟩:=Qe hv
  have hcc:=yY [List.replicate p.1.length false,q.1] (by simp) (by simp;omega)
  have eb:bR [List.replicate p.1.length false,q.1]=[.sl p.1.length (HL.bools (List.replicate p.1.length false)),.sl q.1.length (HL.bools q.1)]:=by
   show [HV.sl (List.replicate p.1.length false).length _,_]=_
   rw [List.length_replicate]
  have ef:[List.replicate p.1.length false,q.1].flatten=List.replicate p.1.length false++q.1:=by simp
  have hnl:(List.replicate p.1.length false++q.1).length=p.1.length+q.1.length:=by simp
  rw [eb,ef,hnl] at hcc
  have hnt:(p.1.length:Int).toNat=p.1.length:=by omega
  have hw3:win [HV.osl 1 p.1.length (HL.bools (List.replicate p.1.length false)),.sl q.1.length (HL.bools q.1)] 0 (2*1)=[HV.osl 1 p.1.length (HL.bools (List.replicate p.1.length false)),.sl q.1.length (HL.bools q.1)]:=rfl
  have hst3:stripL [HV.osl 1 p.1.length (HL.bools (List.replicate p.1.length false)),.sl q.1.length (HL.bools q.1)]=[.sl p.1.length (HL.bools (List.replicate p.1.length false)),.sl q.1.length (HL.bools q.1)]:=by simp [stripL,HV.strip,HL.bools_strip]
  obtain ⟨B,hB⟩:∃B,List.replicate p.1.length false++q.1=B:=⟨_,rfl⟩
  rw [hB] at hcc hnl
  rw [<- hnl] at hcc
  have hfl:=uI p.1 p.1.length
  have hfi:∀i∈ng p.1 p.1.length,0<=i/\i<p.1.length:=fun i hi=>by
   obtain ⟨h1,h2⟩:=mem_finL.1 hi
   refine ⟨h1,?_⟩
   by_cases h:i.toNat<p.1.length
   ·omega
   ·rw [List.getD_eq_getElem?_getD,List.getElem?_eq_none (by omega)] at h2;cases h2
  refine ⟨bJ,_,_,_,_,_,gY,(by decide),bF,?_⟩
  repeat (first|refine ah ?_|refine aW ?_|refine af ?_|refine dm (by rfl) ?_|refine au ?_|refine ak ?_|refine ae ?_|refine aI ?_|refine iU (by rfl) ?_|refine aH ?_)
  refine gJ bC bC (fun _ _ r=>r=.osl 1 B.length (HL.bools B)) ?_
  repeat (first|refine ah ?_|refine iG (by rfl) bQ (by (try simp (disch:=omega) only [go_sem,reduceIte,Nat.reduceEqDiff,Nat.reduceAdd,Nat.reduceMul,hnt]);try rfl) aQ (by (try simp (disch:=omega) only [go_sem,hnt]);try rfl) aJ ?_|refine aH ?_|refine tN dZ bH aO jh (by simp) (by rfl) (by rfl) (by rfl) ?_|refine mP dZ (by rfl) (by omega) aO aO ?_)
  refine jb bH (by simp (disch:=omega) only [cZ,hw3,hst3,HV.thaw,bV,aA,aG,if_true,if_false,reduceIte,Nat.reduceEqDiff,stripL,HV.strip,gu,fF,Nat.mul_one,List.cons_append,List.nil_append,List.append_nil,I,Bl,T3,List.getD_cons_zero,List.getD_cons_succ,HL.ints_strip,HL.bools_strip,fP];try rfl) hcc ⟨_,rfl,by simp [HV.deep,qx]⟩ ?_
  rintro _ rfl -
  refine ⟨bJ,_,_,_,_,_,gY,(by decide),bF,?_⟩
  repeat (first|refine af ?_|refine dH ?_|refine bI dZ ?_|refine bY ?_)
  refine fJ 304 [1,4] [2,3,4,5,6] (⟨[(2,.pref 0 [] 0),(3,.pref 1 [] 0),(4,.pref 2 [] 0),(5,.int .i64 p.1.length),(6,.pref 3 [] 0)],[(0,.optr (fC p)),(1,.optr (fC q)),(2,.optr [.nils,.nils]),(3,.optr [.osl 1 B.length (HL.bools B),.osl 4 0 []])],4⟩:St) rfl rfl ?_
  obtain ⟨L,hL⟩:∃L,p.2.map (nX 0)++q.2.map (nX (p.1.length:Int))=L:=⟨_,rfl⟩
  have hLl:L.length<=6000:=by rw [<- hL];simp;omega
  have ho:lU p q=(B,L++(ng p.1 p.1.length).map fun i=>jm i p.1.length):=by unfold lU;rw [if_pos hv,<- hL,<- hB]
  refine L8 (k:=[]) p q B.length (HL.bools B) hp hq p.1.length (by omega) L hL ?_
  clear hL hcc htg
  have hfin:=zH p.1 (by omega)
  generalize hF:ng p.1 p.1.length=Fl at hfin hfl hfi ho
  unfold KJ
  simp only [fC]
  repeat (first|refine aW ?_|refine ak ?_|refine ae ?_|refine aH ?_)
  refine bT bH dw (hfin) ?_
  rintro _ rfl
  refine ⟨bJ,_,_,_,_,_,gY,(by decide),bF,?_⟩
  repeat (first|refine ah ?_|refine af ?_|refine fG (by rfl) ?_|refine aK ?_)
  refine bU 35 [4,5,6,35,36,37] ⟨[(4,.pref 0 [] 0),(5,.int .i64 p.1.length),(6,.pref 1 [] 0),(35,.sl Fl.length (stripL (win (HL.ints Fl) 0 (Fl.length*1)))),(36,.int .i64 Fl.length),(37,.int .i64 0)],[(0,.optr [.nils,.nils]),(1,.optr [.osl 1 B.length (HL.bools B),.osl 4 L.length (recs aC L)])],2⟩ rfl ?_
  rw [show stripL (win (HL.ints Fl) 0 (Fl.length*1))=HL.ints Fl by rw [iI _ (by simp [HL.ints]),HL.ints_strip]]
  refine dn [4,5,6,35,36,37] (fun i:Nat=>i<=Fl.length)
   (fun i=>⟨[(4,.pref 0 [] 0),(5,.int .i64 p.1.length),(6,.pref 1 [] 0),(35,.sl Fl.length (HL.ints Fl)),(36,.int .i64 Fl.length),(37,.int .i64 i)],[(0,.optr [.nils,.nils]),(1,.optr [.osl 1 B.length (HL.bools B),.osl 4 (L++(Fl.take i).map fun i=>jm i p.1.length).length (recs aC (L++(Fl.take i).map fun i=>jm i p.1.length))])],2⟩)
   (fun i=>Fl.length - i) 0 (by omega) (by simp;rfl) ?_
  intro i hi
  have hRl:(L++(Fl.take i).map fun i=>jm i p.1.length).length<=10000:=by rw [List.length_append,List.length_map,List.length_take];omega
  by_cases hil:i<Fl.length
  ·have hst:L++(Fl.take (i+1)).map (fun i=>jm i p.1.length)=(L++(Fl.take i).map fun i=>jm i p.1.length)++[jm (Fl.getD i 0) p.1.length]:=by rw [Pe hil,List.append_assoc]
   generalize hQ:(L++(Fl.take i).map fun i=>jm i p.1.length)=Q at hst hRl ⊢
   have hj:=Bc (Fl.getD i 0) p.1.length
   repeat (first|refine ah ?_|refine bu ?_|refine dP ?_|refine af ?_|refine aF ?_|refine ax ?_|refine ak ?_|refine ae ?_|refine aK ?_|refine aI ?_)
   refine lg [5,8] [] bC bC (fun _ args r=>r=ZE args) (by simp [aA,HV.deep]) (by simp) ?_ (by rintro _ _ _ rfl fr;exact Po)
   repeat (first|refine ah ?_|refine aW ?_|refine aH ?_)
   refine jb bH dw hj ⟨_,rfl,rfl⟩ ?_
   rintro _ rfl -
   simp only [ZE,jm,aC]
   refine ⟨bJ,_,_,_,_,_,gY,(by decide),bF,?_⟩
   repeat (first|refine ah ?_|refine af ?_|refine bM ?_|refine ae ?_|refine gV ?_|refine aH ?_|refine dH ?_|refine cO ?_|refine jv ?_)
   refine dS [4,5,6,35,36,37] (i+1) hil (by omega) ?_
   simp only [jm] at hst
   rw [hst]
   simp only [List.length_append,List.length_singleton]
   rfl
  ·obtain rfl:i=Fl.length:=by omega
   rw [List.take_length] at hRl ⊢
   have hQ:=ho
   generalize L++Fl.map (fun i=>jm i p.1.length)=Q at hQ hRl ⊢
   refine ak ?_
   refine ae ?_
   repeat (first|refine af ?_|refine aF ?_)
   refine ak ?_
   refine au ?_
   refine bZ (by rfl) ?_
   refine bU 1 [4,6] ⟨[(4,.pref 0 [] 0),(6,.ptr (stripL [.osl 1 B.length (HL.bools B),.osl 4 Q.length (recs aC Q)]) 0)],[(0,.optr [.nils,.nils])],1⟩ rfl ?_
   rw [kJ]
   repeat (first|refine af ?_|refine ak ?_|refine ae ?_|refine bG ?_|refine dH ?_)
   refine ay ?_
   exact ⟨_,_,rfl,rfl,by rw [hQ];rfl⟩
end Go.Proofs.Ytlbdmpjnmfmnfaa
