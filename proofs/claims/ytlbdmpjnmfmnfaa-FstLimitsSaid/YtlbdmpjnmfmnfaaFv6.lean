import Derived.Test.YtlbdmpjnmfmnfaaFs6
import Derived.Test.YtlbdmpjnmfmnfaaFw4
section
set_option linter.unusedSimpArgs false
set_option linter.unusedVariables false
namespace Go.Proofs.Ytlbdmpjnmfmnfaa
open Go.RowKit Go.HL Go.FS
def Ve (d:Int):List HV->List HV
 | .int _ f::i::o::.int _ t::r=>.int .i64 (f+d)::i::o::.int .i64 (t+d)::Ve d r
 | _=>[]
theorem jK (d:Int) (l:List A):Ve d (recs aC l)=recs aC (l.map (nX d)):=by
 induction l with
 | nil=>rfl
 | cons a l ih =>
  show Ve d (.int .i64 a.f::.int .i64 a.i::.int .i64 a.o::.int .i64 a.t::recs aC l)=_
  simp only [Ve,ih]
  rfl
def lq:List HV->HV
 | [.int _ a,.int _ b]=>.agg (aC (jm a b))
 | [.int _ d]=>.fn 104 [.optr [.int .i64 d]]
 | [.osl _ n cs,.agg [_,.sl m ds],.fn _ [.optr [.int _ d]]]=>.osl 4 (n+m) (cs++Ve d ds)
 | [.nils,.agg [_,.sl m ds],.fn _ [.optr [.int _ d]]]=>.osl 4 m (Ve d ds)
 | _=>.dead
def DG:DS:=⟨fun _ args r=>r=lq args,fun f=>f==75⟩
theorem QS (R:List A) (fin:List Bool) (al:List A) (d:Int) (hv:okF fin al=true) (hd:0<=d/\d<=1000000) (hR:R.length<=1000000) :
  HTM Try.prog 75 [.osl 4 R.length (recs aC R),.agg [.sl fin.length (HL.bools fin),.sl al.length (recs aC al)],.fn 104 [.optr [.int .i64 d]]] (fun r=>r=lq [.osl 4 R.length (recs aC R),.agg [.sl fin.length (HL.bools fin),.sl al.length (recs aC al)],.fn 104 [.optr [.int .i64 d]]]):=by
 refine (Kt R fin al d hv hd hR).mono fun r _ h=>?_
 rw [h]
 simp only [lq,jK,List.length_append,List.length_map]
 rw [lD]
theorem Yo (fin:List Bool) (al:List A) (d:Int) (hv:okF fin al=true) (hd:0<=d/\d<=1000000) :
  HTM Try.prog 75 [.nils,.agg [.sl fin.length (HL.bools fin),.sl al.length (recs aC al)],.fn 104 [.optr [.int .i64 d]]] (fun r=>r=lq [.nils,.agg [.sl fin.length (HL.bools fin),.sl al.length (recs aC al)],.fn 104 [.optr [.int .i64 d]]]):=by
 refine HTM.nil0 (sz:=4) ((Kt [] fin al d hv hd (by simp)).mono fun r _ h=>?_)
 rw [h]
 simp only [lq,jK,List.nil_append,List.length_map]
end Go.Proofs.Ytlbdmpjnmfmnfaa
end
section
set_option linter.unusedSimpArgs false
set_option linter.unusedVariables false
namespace Go.Proofs.Ytlbdmpjnmfmnfaa
set_option linter.unusedSimpArgs false
open Go.RowKit Go.HL Go.FS
set_option maxHeartbeats 8000000 in
theorem SN {k:List HI} [hp:Plain k] {rs:List Nat} {Kp:HV->Prop} (p q:Tn) (m:Nat) (B:List HV) (hv:okF p.1 p.2=true) (hq:okF q.1 q.2=true) (d:Int) (hd:0<=d/\d<=1000000) (L:List A) (hL:[jm 0 1,jm 0 d]++p.2.map (nX 1)++q.2.map (nX d)=L)
  (h:hx Try.prog (.c LY::k) (finish rs Kp) ⟨[(4,.pref 0 [] 0),(6,.pref 1 [] 0)],[(0,.optr [.nils,.nils]),(1,.optr [.osl 1 m B,.osl 4 L.length (recs aC L)])],2⟩) :
  hx Try.prog (.c LG::k) (finish rs Kp) ⟨[(2,.pref 0 [] 0),(3,.pref 1 [] 0),(4,.pref 2 [] 0),(5,.int .i64 d),(6,.pref 3 [] 0)],[(0,.optr (fC p)),(1,.optr (fC q)),(2,.optr [.nils,.nils]),(3,.optr [.osl 1 m B,.osl 4 0 []])],4⟩:=by
 obtain ⟨p1,p2,p3⟩:=gm hv
 obtain ⟨q1,q2,q3⟩:=gm hq
 unfold LG
 refine ak ?_
 simp only [fC]
 refine xN DG bC ?_
 refine uP (vs:=[.int .i64 0,.int .i64 1]) (args:=[.int .i64 0,.int .i64 1]) rfl rfl rfl (Bc 0 1) ⟨_,rfl,rfl⟩ rfl ?_
 rintro _ rfl -
 refine ⟨by rfl,.agg (aC (jm 0 1)),[],4,_,_,_,rfl,by simp [stride],rfl,by kernel_rfl,(by simp only [kR,o8];rfl),?_⟩
 refine jy (.int .i64 d) _ rfl rfl (by trivial) rfl bC ?_
 refine uP (vs:=[.int .i64 0,.int .i64 d]) (args:=[.int .i64 0,.int .i64 d]) rfl rfl rfl (Bc 0 d) ⟨_,rfl,rfl⟩ rfl ?_
 rintro _ rfl -
 refine ⟨by rfl,.agg (aC (jm 0 d)),[],36,_,_,_,rfl,by simp [stride],rfl,by kernel_rfl,(by simp only [kR,o8];rfl),?_⟩
 refine Hz (.ref 52 [] 4 0 2) [.put 52 (.osl 4 2 (recs aC [jm 0 1,jm 0 d]))] rfl rfl rfl (by refine ⟨?_,rfl,rfl⟩;repeat (first|trivial|refine ⟨?_,?_⟩)) rfl rfl bC (by simp only [kR,o8];rfl) ?_
 refine jy (.agg [.sl p.1.length (HL.bools p.1),.sl p.2.length (recs aC p.2)]) _ rfl rfl ⟨Nat.le_of_ble_eq_true rfl,Nat.le_of_ble_eq_true rfl,rfl⟩ rfl bC ?_
 refine uP (vs:=[.int .i64 1]) (args:=[.int .i64 1]) rfl rfl rfl (wL 1) ⟨_,rfl,rfl⟩ rfl ?_
 rintro _ rfl -
 refine ⟨by rfl,.fn 104 [.pref 84 [] 0],[.put 84 (.optr [.int .i64 1])],85,_,_,_,rfl,by simp [stride],rfl,by kernel_rfl,(by simp only [List.nil_append,kR,o8];rfl),?_⟩
 refine F5 (vs:=[.ref 52 [] 4 0 2,.agg [.sl p.1.length (HL.bools p.1),.sl p.2.length (recs aC p.2)],.fn 104 [.pref 84 [] 0]]) (args:=[.osl 4 2 (recs aC [jm 0 1,jm 0 d]),.agg [.sl p.1.length (HL.bools p.1),.sl p.2.length (recs aC p.2)],.fn 104 [.optr [.int .i64 1]]]) (ut:=[.put 52 .dead,.put 84 .dead]) rfl rfl rfl (by repeat (first|trivial|refine ⟨?_,?_⟩)) (QS [jm 0 1,jm 0 d] p.1 p.2 1 hv ⟨by omega,by omega⟩ (by simp)) ⟨_,rfl,by simp [lq,HV.deep,jo,kN,jK]⟩ rfl ?_
 rintro _ rfl -
 have e1:lq [.osl 4 2 (recs aC [jm 0 1,jm 0 d]),.agg [.sl p.1.length (HL.bools p.1),.sl p.2.length (recs aC p.2)],.fn 104 [.optr [.int .i64 1]]]=.osl 4 ([jm 0 1,jm 0 d]++p.2.map (nX 1)).length (recs aC ([jm 0 1,jm 0 d]++p.2.map (nX 1))):=by
  simp only [lq,jK,lD,List.length_append,List.length_map,List.length_cons,List.length_nil]
 rw [e1]
 have hR1:([jm 0 1,jm 0 d]++p.2.map (nX 1)).length<=10000:=by simp;omega
 generalize [jm 0 1,jm 0 d]++p.2.map (nX 1)=R at hL hR1 ⊢
 refine ⟨.ref 100 [] 4 0 R.length,[.put 100 (.osl 4 R.length (recs aC R))],101,_,_,_,rfl,by simp [stride],rfl,by kernel_rfl,(by simp only [List.cons_append,List.nil_append,kR,o8];rfl),?_⟩
 refine jy (.agg [.sl q.1.length (HL.bools q.1),.sl q.2.length (recs aC q.2)]) _ rfl rfl ⟨Nat.le_of_ble_eq_true rfl,Nat.le_of_ble_eq_true rfl,rfl⟩ rfl bC ?_
 refine jy (.int .i64 d) _ rfl rfl (by trivial) rfl bC ?_
 refine uP (vs:=[.int .i64 d]) (args:=[.int .i64 d]) rfl rfl rfl (wL d) ⟨_,rfl,rfl⟩ rfl ?_
 rintro _ rfl -
 refine ⟨by rfl,.fn 104 [.pref 148 [] 0],[.put 148 (.optr [.int .i64 d])],149,_,_,_,rfl,by simp [stride],rfl,by kernel_rfl,(by simp only [List.nil_append,kR,o8];rfl),?_⟩
 refine F5 (vs:=[.ref 100 [] 4 0 R.length,.agg [.sl q.1.length (HL.bools q.1),.sl q.2.length (recs aC q.2)],.fn 104 [.pref 148 [] 0]]) (args:=[.osl 4 R.length (recs aC R),.agg [.sl q.1.length (HL.bools q.1),.sl q.2.length (recs aC q.2)],.fn 104 [.optr [.int .i64 d]]]) (ut:=[.put 100 .dead,.put 148 .dead]) rfl rfl rfl (by repeat (first|trivial|refine ⟨?_,?_⟩)) (QS R q.1 q.2 d hq hd (by omega)) ⟨_,rfl,by simp [lq,HV.deep,jo,kN,jK]⟩ rfl ?_
 rintro _ rfl -
 have e2:lq [.osl 4 R.length (recs aC R),.agg [.sl q.1.length (HL.bools q.1),.sl q.2.length (recs aC q.2)],.fn 104 [.optr [.int .i64 d]]]=.osl 4 L.length (recs aC L):=by
  rw [<- hL]
  simp only [lq,jK,lD,List.length_append,List.length_map]
 rw [e2]
 refine ⟨.ref 164 [] 4 0 L.length,[.put 164 (.osl 4 L.length (recs aC L))],165,_,_,_,rfl,by simp [stride],rfl,by kernel_rfl,(by simp only [List.cons_append,List.nil_append,kR,o8];rfl),?_⟩
 refine jy (.pref 3 [] 1) _ rfl rfl (by trivial) rfl bC ?_
 refine Hz (side:=((0=0/\L.length=L.length)/\True)/\[HV.osl 4 L.length (recs aC L)].length=1/\0<1/\1+1<=2/\(false=true->bW [HV.osl 4 L.length (recs aC L)]=true)) .dead [.put 164 .dead,.kill 3 0,.put 3 (.optr [.osl 1 m B,.osl 4 L.length (recs aC L)])] rfl rfl rfl ⟨⟨⟨rfl,rfl⟩,trivial⟩,rfl,Nat.zero_lt_one,Nat.le_refl _,fun h=>absurd h (by decide)⟩ rfl rfl bC (by simp only [kR,o8];rfl) ?_
 refine MZ rfl ?_
 exact dR [4,6] _ rfl h
end Go.Proofs.Ytlbdmpjnmfmnfaa
end
section
set_option linter.unusedSimpArgs false
set_option linter.unusedVariables false
namespace Go.Proofs.Ytlbdmpjnmfmnfaa
set_option linter.unusedSimpArgs false
set_option linter.unnecessarySimpa false
open Go.RowKit Go.HL Go.FS
set_option maxHeartbeats 8000000 in
theorem Yn (p q:Tn) (h1:p.1.length<=1000000000/\p.2.length<=1000000000) (h2:q.1.length<=1000000000/\q.2.length<=1000000000):HT Try.prog 29 [.agg (fC p),.agg (fC q)] (fun r=>r=.agg (fC (Ed p q))):=by
 refine HT.ofC rfl aat [4] rfl (Nat.le_of_ble_eq_true rfl) ?_
 unfold c29
 have htg:=vX [p,q] (by simp) (by simp [h1,h2])
 have e0:recs fC [p,q]=[.sl p.1.length (HL.bools p.1),.sl p.2.length (recs aC p.2),.sl q.1.length (HL.bools q.1),.sl q.2.length (recs aC q.2)]:=rfl
 rw [e0] at htg
 have hw:win [HV.sl p.1.length (HL.bools p.1),.sl p.2.length (recs aC p.2),.sl q.1.length (HL.bools q.1),.sl q.2.length (recs aC q.2)] 0 (2*2)=[.sl p.1.length (HL.bools p.1),.sl p.2.length (recs aC p.2),.sl q.1.length (HL.bools q.1),.sl q.2.length (recs aC q.2)]:=rfl
 have hst:stripL [HV.sl p.1.length (HL.bools p.1),.sl p.2.length (recs aC p.2),.sl q.1.length (HL.bools q.1),.sl q.2.length (recs aC q.2)]=[.sl p.1.length (HL.bools p.1),.sl p.2.length (recs aC p.2),.sl q.1.length (HL.bools q.1),.sl q.2.length (recs aC q.2)]:=by simp [stripL,HV.strip,HL.bools_strip,iR]
 simp only [aY,Nat.reduceAdd,fC]
 repeat (first|refine af ?_|refine ak ?_|refine ae ?_|refine gq ?_|refine cO ?_|refine dX ?_|refine bI dZ ?_)
 refine bT bH (by simp (disch:=omega) only [cZ,hw,hst,HV.thaw,bV,aA,aG,if_true,if_false,reduceIte,Nat.reduceEqDiff,stripL,HV.strip,gu,fF,Nat.mul_one,List.cons_append,List.nil_append,List.append_nil,I,Bl,T3,List.getD_cons_zero,List.getD_cons_succ,HL.ints_strip,HL.bools_strip,fP];try rfl) (htg) ?_
 rintro _ rfl
 cases hv:zX [p,q] with
 | false =>
  have ho:Ed p q=([],[]):=by unfold Ed;rw [hv];rfl
  refine ⟨bJ,_,_,_,_,_,gY,(by decide),bF,?_⟩
  repeat (first|refine af ?_|refine ax ?_|refine ak ?_|refine ae ?_|refine jC (by rfl) ?_|refine dH ?_|refine bY ?_)
  refine fJ 32 [1,4] [4] (⟨[(4,.pref 0 [] 0)],[(0,.optr [.osl 1 0 [],.osl 4 0 []])],1⟩:St) rfl rfl ?_
  refine nO 0 [4] ⟨[(4,.pref 0 [] 0)],[(0,.optr [.sl 0 [],.sl 0 []])],1⟩ rfl rfl ?_
  refine ay ?_
  exact ⟨_,_,rfl,rfl,by rw [ho];rfl⟩
 | true =>
  obtain ⟨hp,hq,hs1,hs2⟩:=Qe hv
  have hcc:=yY [[false],p.1,q.1] (by simp) (by simp;omega)
  have eb:bR [[false],p.1,q.1]=[.sl 1 [.bool false],.sl p.1.length (HL.bools p.1),.sl q.1.length (HL.bools q.1)]:=rfl
  have ef:[[false],p.1,q.1].flatten=false::(p.1++q.1):=by simp
  rw [eb,ef] at hcc
  have hw3:win [HV.osl 1 1 [.bool false],.sl p.1.length (HL.bools p.1),.sl q.1.length (HL.bools q.1)] 0 (3*1)=[HV.osl 1 1 [.bool false],.sl p.1.length (HL.bools p.1),.sl q.1.length (HL.bools q.1)]:=rfl
  have hst3:stripL [HV.osl 1 1 [.bool false],.sl p.1.length (HL.bools p.1),.sl q.1.length (HL.bools q.1)]=[.sl 1 [.bool false],.sl p.1.length (HL.bools p.1),.sl q.1.length (HL.bools q.1)]:=by simp [stripL,HV.strip,HL.bools_strip]
  refine ⟨bJ,_,_,_,_,_,gY,(by decide),bF,?_⟩
  repeat (first|refine ah ?_|refine aW ?_|refine af ?_|refine bM ?_|refine dm (by rfl) ?_|refine au ?_|refine ak ?_|refine ae ?_|refine aI ?_|refine iU (by rfl) ?_|refine aH ?_|refine cO ?_|refine tN dZ bH aO jh (by simp) (by rfl) (by rfl) (by rfl) ?_)
  refine bT bH (by simp (disch:=omega) only [cZ,hw3,hst3,HV.thaw,bV,aA,aG,if_true,if_false,reduceIte,Nat.reduceEqDiff,stripL,HV.strip,gu,fF,Nat.mul_one,List.cons_append,List.nil_append,List.append_nil,I,Bl,T3,List.getD_cons_zero,List.getD_cons_succ,HL.ints_strip,HL.bools_strip,fP];try rfl) (hcc) ?_
  rintro _ rfl
  refine ⟨bJ,_,_,_,_,_,gY,(by decide),bF,?_⟩
  repeat (first|refine af ?_|refine dH ?_|refine bI dZ ?_|refine bY ?_)
  refine fJ 336 [1,4] [2,3,4,5,6] (⟨[(2,.pref 0 [] 0),(3,.pref 1 [] 0),(4,.pref 2 [] 0),(5,.int .i64 (1+p.1.length)),(6,.pref 3 [] 0)],[(0,.optr (fC p)),(1,.optr (fC q)),(2,.optr [.nils,.nils]),(3,.optr [.osl 1 ((p.1++q.1).length+1) (HL.bools (false::(p.1++q.1))),.osl 4 0 []])],4⟩:St) rfl rfl ?_
  obtain ⟨L,hL⟩:∃L,[jm 0 1,jm 0 (1+(p.1.length:Int))]++p.2.map (nX 1)++q.2.map (nX (1+(p.1.length:Int)))=L:=⟨_,rfl⟩
  have ho:Ed p q=(false::(p.1++q.1),L):=by unfold Ed;rw [if_pos hv,<- hL];rfl
  refine SN (k:=[]) p q ((p.1++q.1).length+1) (HL.bools (false::(p.1++q.1))) hp hq (1+p.1.length) (by omega) L hL ?_
  refine bU 1 [4,6] ⟨[(4,.pref 0 [] 0),(6,.ptr (stripL [.osl 1 ((p.1++q.1).length+1) (HL.bools (false::(p.1++q.1))),.osl 4 L.length (recs aC L)]) 0)],[(0,.optr [.nils,.nils])],1⟩ rfl ?_
  rw [kJ]
  unfold LY
  repeat (first|refine af ?_|refine ak ?_|refine ae ?_|refine bG ?_|refine dH ?_)
  refine ay ?_
  exact ⟨_,_,rfl,rfl,by rw [ho];rfl⟩
end Go.Proofs.Ytlbdmpjnmfmnfaa
end
