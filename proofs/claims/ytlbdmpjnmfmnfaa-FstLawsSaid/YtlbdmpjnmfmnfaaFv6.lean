import Derived.Test.YtlbdmpjnmfmnfaaFt4
import Derived.Test.YtlbdmpjnmfmnfaaFt8
import Derived.Test.YtlbdmpjnmfmnfaaFs2
section
set_option linter.unusedSimpArgs false
set_option linter.unusedVariables false
namespace Go.Proofs.Ytlbdmpjnmfmnfaa
set_option linter.unusedSimpArgs false
set_option linter.unnecessarySimpa false
open Go.RowKit Go.HL Go.FS
set_option maxHeartbeats 4000000 in
theorem rP (x y:Tn) (w:List Int) (hx:okF x.1 x.2=true) (hy:okF y.1 y.2=true) (hS:qV x y) (hw:w.length<=1024):HT Try.prog 33 [.agg (fC x),.agg (fC y),.sl w.length (HL.ints w)] (fun r=>r=.bool true):=by
 refine HT.of rfl aey (Nat.le_of_ble_eq_true rfl) ?_
 unfold c33
 obtain ⟨x1,x2,x3⟩:=dR hx
 obtain ⟨y1,y2,y3⟩:=dR hy
 have a1:=oU x.1 x.2 w 12 (by omega) (by omega) (by omega)
 have a2:=oU y.1 y.2 w 12 (by omega) (by omega) (by omega)
 have he:=TM hx hy hS hw
 have h2:=Sj (w:=w) (most:=12) ⟨hx,by omega,by omega,hw⟩
 have hl:=vH x.1 x.2 w 12
 simp only [apT,iC,jX] at a1 a2
 rw [<- he] at a2
 generalize nK x.1 x.2 w 12=f at a1 a2 h2 hl
 have hwf:stripL (win (wds f.1) 0 f.1.length)=wds f.1:=by have:=BL f.1;rw [Nat.mul_one] at this;rw [this,AL]
 have hs:=pY f.1 f.1 (by omega) (by omega) (fun u hu=>Nat.le_trans (hl.2 u hu) (by decide)) (fun u hu=>Nat.le_trans (hl.2 u hu) (by decide))
 rw [decide_eq_true rfl] at hs
 simp only [aY,Nat.reduceAdd,fC]
 repeat (first|refine ah ?_|refine af ?_|refine ak ?_|refine ae ?_|refine fJ ?_|refine dU ?_)
 refine bY bz bW (a1) ?_
 rintro _ rfl
 refine ⟨bG,_,_,_,_,_,fU,(by decide),bu,?_⟩
 repeat (first|refine ah ?_|refine af ?_|refine dJ ?_|refine ak ?_|refine ae ?_|refine fJ ?_)
 refine bY bz bW (a2) ?_
 rintro _ rfl
 refine ⟨bG,_,_,_,_,_,fU,(by decide),bu,?_⟩
 rcases h2 with h2|h2
 ·rw [h2]
  repeat (first|refine ah ?_|refine aK ?_|refine dH ?_|refine af ?_|refine dX ?_|refine aS ?_|refine dJ ?_|refine ak ?_|refine ae ?_)
  refine bY bz (by simp (disch:=omega) only [dI,hwf,HV.thaw,dA,aG,aJ,if_true,if_false,reduceIte,Nat.reduceEqDiff,stripL,HV.strip,iD,iJ,Nat.mul_one,List.cons_append,List.nil_append,List.append_nil,I,Bl,T3,List.getD_cons_zero,List.getD_cons_succ,HL.ints_strip,HL.bools_strip,iW];try rfl) (hs) ?_
  rintro _ rfl
  refine ⟨bG,_,_,_,_,_,fU,(by decide),bu,?_⟩
  repeat (first|refine ah ?_|refine af ?_|refine aS ?_)
  refine ay ?_
  rfl
 ·rw [h2]
  repeat (first|refine ah ?_|refine aK ?_|refine af ?_|refine dX ?_|refine aS ?_|refine aO ?_|refine dJ ?_|refine ak ?_|refine ae ?_)
  refine bY bz (by simp (disch:=omega) only [dI,hwf,HV.thaw,dA,aG,aJ,if_true,if_false,reduceIte,Nat.reduceEqDiff,stripL,HV.strip,iD,iJ,Nat.mul_one,List.cons_append,List.nil_append,List.append_nil,I,Bl,T3,List.getD_cons_zero,List.getD_cons_succ,HL.ints_strip,HL.bools_strip,iW];try rfl) (hs) ?_
  rintro _ rfl
  refine ⟨bG,_,_,_,_,_,fU,(by decide),bu,?_⟩
  repeat (first|refine ah ?_|refine af ?_|refine aS ?_)
  refine ay ?_
  rfl
theorem PK:HT Try.prog 32 [.nils,.nils] (fun r=>r=.agg (zB [true] [])) :=
 HT.arg (fun F hp rvs o=>IW o) (EF [] [] (by simp) (by simp))
end Go.Proofs.Ytlbdmpjnmfmnfaa
end
section
set_option linter.unusedSimpArgs false
set_option linter.unusedVariables false
namespace Go.Proofs.Ytlbdmpjnmfmnfaa
open Go.RowKit Go.HL Go.FS
def Yj (d:Int):List HV->List HV
 | .int _ f::i::o::.int _ t::r=>.int .i64 (f+d)::i::o::.int .i64 (t+d)::Yj d r
 | _=>[]
theorem jB (d:Int) (l:List A):Yj d (recs aC l)=recs aC (l.map (iV d)):=by
 induction l with
 | nil=>rfl
 | cons a l ih =>
  show Yj d (.int .i64 a.f::.int .i64 a.i::.int .i64 a.o::.int .i64 a.t::recs aC l)=_
  simp only [Yj,ih]
  rfl
def kR:List HV->HV
 | [.int _ a,.int _ b]=>.agg (aC (jm a b))
 | [.int _ d]=>.fn 104 [.optr [.int .i64 d]]
 | [.osl _ n cs,.agg [_,.sl m ds],.fn _ [.optr [.int _ d]]]=>.osl 4 (n+m) (cs++Yj d ds)
 | [.nils,.agg [_,.sl m ds],.fn _ [.optr [.int _ d]]]=>.osl 4 m (Yj d ds)
 | _=>.dead
def DG:DS:=⟨fun _ args r=>r=kR args,fun f=>f==75⟩
theorem Q3 (R:List A) (fin:List Bool) (al:List A) (d:Int) (hv:okF fin al=true) (hd:0<=d/\d<=1000000) (hR:R.length<=1000000) :
  HTM Try.prog 75 [.osl 4 R.length (recs aC R),.agg [.sl fin.length (HL.bools fin),.sl al.length (recs aC al)],.fn 104 [.optr [.int .i64 d]]] (fun r=>r=kR [.osl 4 R.length (recs aC R),.agg [.sl fin.length (HL.bools fin),.sl al.length (recs aC al)],.fn 104 [.optr [.int .i64 d]]]):=by
 refine (Qx R fin al d hv hd hR).mono fun r _ h=>?_
 rw [h]
 simp only [kR,jB,List.length_append,List.length_map]
 rw [kZ]
theorem aa0 (fin:List Bool) (al:List A) (d:Int) (hv:okF fin al=true) (hd:0<=d/\d<=1000000) :
  HTM Try.prog 75 [.nils,.agg [.sl fin.length (HL.bools fin),.sl al.length (recs aC al)],.fn 104 [.optr [.int .i64 d]]] (fun r=>r=kR [.nils,.agg [.sl fin.length (HL.bools fin),.sl al.length (recs aC al)],.fn 104 [.optr [.int .i64 d]]]):=by
 refine HTM.nil0 (sz:=4) ((Qx [] fin al d hv hd (by simp)).mono fun r _ h=>?_)
 rw [h]
 simp only [kR,jB,List.nil_append,List.length_map]
end Go.Proofs.Ytlbdmpjnmfmnfaa
end
section
set_option linter.unusedSimpArgs false
set_option linter.unusedVariables false
namespace Go.Proofs.Ytlbdmpjnmfmnfaa
set_option linter.unusedSimpArgs false
open Go.RowKit Go.HL Go.FS
set_option maxHeartbeats 8000000 in
theorem VF {k:List HI} [hp:Plain k] {rs:List Nat} {Kp:HV->Prop} (p q:Tn) (m:Nat) (B:List HV) (hv:okF p.1 p.2=true) (hq:okF q.1 q.2=true) (d:Int) (hd:0<=d/\d<=1000000) (L:List A) (hL:[jm 0 1,jm 0 d]++p.2.map (iV 1)++q.2.map (iV d)=L)
  (h:hx Try.prog (.c Qs::k) (finish rs Kp) ⟨[(4,.pref 0 [] 0),(6,.pref 1 [] 0)],[(0,.optr [.nils,.nils]),(1,.optr [.osl 1 m B,.osl 4 L.length (recs aC L)])],2⟩) :
  hx Try.prog (.c PG::k) (finish rs Kp) ⟨[(2,.pref 0 [] 0),(3,.pref 1 [] 0),(4,.pref 2 [] 0),(5,.int .i64 d),(6,.pref 3 [] 0)],[(0,.optr (fC p)),(1,.optr (fC q)),(2,.optr [.nils,.nils]),(3,.optr [.osl 1 m B,.osl 4 0 []])],4⟩:=by
 obtain ⟨p1,p2,p3⟩:=dR hv
 obtain ⟨q1,q2,q3⟩:=dR hq
 unfold PG
 refine ak ?_
 simp only [fC]
 refine vX DG aT ?_
 refine rG (vs:=[.int .i64 0,.int .i64 1]) (args:=[.int .i64 0,.int .i64 1]) rfl rfl rfl (vk 0 1) ⟨_,rfl,rfl⟩ rfl ?_
 rintro _ rfl -
 refine ⟨by rfl,.agg (aC (jm 0 1)),[],4,_,_,_,rfl,by simp [stride],rfl,by kernel_rfl,kF,?_⟩
 refine jJ (.int .i64 d) _ rfl rfl (by trivial) rfl aT ?_
 refine rG (vs:=[.int .i64 0,.int .i64 d]) (args:=[.int .i64 0,.int .i64 d]) rfl rfl rfl (vk 0 d) ⟨_,rfl,rfl⟩ rfl ?_
 rintro _ rfl -
 refine ⟨by rfl,.agg (aC (jm 0 d)),[],36,_,_,_,rfl,by simp [stride],rfl,by kernel_rfl,kF,?_⟩
 refine FD (.ref 52 [] 4 0 2) [.put 52 (.osl 4 2 (recs aC [jm 0 1,jm 0 d]))] rfl rfl rfl (by refine ⟨?_,rfl,rfl⟩;repeat (first|trivial|refine ⟨?_,?_⟩)) rfl rfl aT kF ?_
 refine jJ (.agg [.sl p.1.length (HL.bools p.1),.sl p.2.length (recs aC p.2)]) _ rfl rfl ⟨Nat.le_of_ble_eq_true rfl,Nat.le_of_ble_eq_true rfl,rfl⟩ rfl aT ?_
 refine rG (vs:=[.int .i64 1]) (args:=[.int .i64 1]) rfl rfl rfl (vZ 1) ⟨_,rfl,rfl⟩ rfl ?_
 rintro _ rfl -
 refine ⟨by rfl,.fn 104 [.pref 84 [] 0],[.put 84 (.optr [.int .i64 1])],85,_,_,_,rfl,by simp [stride],rfl,by kernel_rfl,(by simp only [List.nil_append,nU,uU];rfl),?_⟩
 refine DF (vs:=[.ref 52 [] 4 0 2,.agg [.sl p.1.length (HL.bools p.1),.sl p.2.length (recs aC p.2)],.fn 104 [.pref 84 [] 0]]) (args:=[.osl 4 2 (recs aC [jm 0 1,jm 0 d]),.agg [.sl p.1.length (HL.bools p.1),.sl p.2.length (recs aC p.2)],.fn 104 [.optr [.int .i64 1]]]) (ut:=[.put 52 .dead,.put 84 .dead]) rfl rfl rfl (by repeat (first|trivial|refine ⟨?_,?_⟩)) (Q3 [jm 0 1,jm 0 d] p.1 p.2 1 hv ⟨by omega,by omega⟩ (by simp)) ⟨_,rfl,by simp [kR,HV.deep,jv,fB,jB]⟩ rfl ?_
 rintro _ rfl -
 have e1:kR [.osl 4 2 (recs aC [jm 0 1,jm 0 d]),.agg [.sl p.1.length (HL.bools p.1),.sl p.2.length (recs aC p.2)],.fn 104 [.optr [.int .i64 1]]]=.osl 4 ([jm 0 1,jm 0 d]++p.2.map (iV 1)).length (recs aC ([jm 0 1,jm 0 d]++p.2.map (iV 1))):=by
  simp only [kR,jB,kZ,List.length_append,List.length_map,List.length_cons,List.length_nil]
 rw [e1]
 have hR1:([jm 0 1,jm 0 d]++p.2.map (iV 1)).length<=10000:=by simp;omega
 generalize [jm 0 1,jm 0 d]++p.2.map (iV 1)=R at hL hR1 ⊢
 refine ⟨.ref 100 [] 4 0 R.length,[.put 100 (.osl 4 R.length (recs aC R))],101,_,_,_,rfl,by simp [stride],rfl,by kernel_rfl,(by simp only [List.cons_append,List.nil_append,nU,uU];rfl),?_⟩
 refine jJ (.agg [.sl q.1.length (HL.bools q.1),.sl q.2.length (recs aC q.2)]) _ rfl rfl ⟨Nat.le_of_ble_eq_true rfl,Nat.le_of_ble_eq_true rfl,rfl⟩ rfl aT ?_
 refine jJ (.int .i64 d) _ rfl rfl (by trivial) rfl aT ?_
 refine rG (vs:=[.int .i64 d]) (args:=[.int .i64 d]) rfl rfl rfl (vZ d) ⟨_,rfl,rfl⟩ rfl ?_
 rintro _ rfl -
 refine ⟨by rfl,.fn 104 [.pref 148 [] 0],[.put 148 (.optr [.int .i64 d])],149,_,_,_,rfl,by simp [stride],rfl,by kernel_rfl,(by simp only [List.nil_append,nU,uU];rfl),?_⟩
 refine DF (vs:=[.ref 100 [] 4 0 R.length,.agg [.sl q.1.length (HL.bools q.1),.sl q.2.length (recs aC q.2)],.fn 104 [.pref 148 [] 0]]) (args:=[.osl 4 R.length (recs aC R),.agg [.sl q.1.length (HL.bools q.1),.sl q.2.length (recs aC q.2)],.fn 104 [.optr [.int .i64 d]]]) (ut:=[.put 100 .dead,.put 148 .dead]) rfl rfl rfl (by repeat (first|trivial|refine ⟨?_,?_⟩)) (Q3 R q.1 q.2 d hq hd (by omega)) ⟨_,rfl,by simp [kR,HV.deep,jv,fB,jB]⟩ rfl ?_
 rintro _ rfl -
 have e2:kR [.osl 4 R.length (recs aC R),.agg [.sl q.1.length (HL.bools q.1),.sl q.2.length (recs aC q.2)],.fn 104 [.optr [.int .i64 d]]]=.osl 4 L.length (recs aC L):=by
  rw [<- hL]
  simp only [kR,jB,kZ,List.length_append,List.length_map]
 rw [e2]
 refine ⟨.ref 164 [] 4 0 L.length,[.put 164 (.osl 4 L.length (recs aC L))],165,_,_,_,rfl,by simp [stride],rfl,by kernel_rfl,(by simp only [List.cons_append,List.nil_append,nU,uU];rfl),?_⟩
 refine jJ (.pref 3 [] 1) _ rfl rfl (by trivial) rfl aT ?_
 refine FD (side:=((0=0/\L.length=L.length)/\True)/\[HV.osl 4 L.length (recs aC L)].length=1/\0<1/\1+1<=2/\(false=true->cZ [HV.osl 4 L.length (recs aC L)]=true)) .dead [.put 164 .dead,.kill 3 0,.put 3 (.optr [.osl 1 m B,.osl 4 L.length (recs aC L)])] rfl rfl rfl ⟨⟨⟨rfl,rfl⟩,trivial⟩,rfl,Nat.zero_lt_one,Nat.le_refl _,fun h=>absurd h (by decide)⟩ rfl rfl aT kF ?_
 refine Ja rfl ?_
 exact dV [4,6] _ rfl h
end Go.Proofs.Ytlbdmpjnmfmnfaa
end
section
set_option linter.unusedSimpArgs false
set_option linter.unusedVariables false
namespace Go.Proofs.Ytlbdmpjnmfmnfaa
set_option linter.unusedSimpArgs false
set_option linter.unnecessarySimpa false
open Go.RowKit Go.HL Go.FS
set_option maxHeartbeats 8000000 in
theorem Oc (p q:Tn) (h1:p.1.length<=1000000000/\p.2.length<=1000000000) (h2:q.1.length<=1000000000/\q.2.length<=1000000000):HT Try.prog 29 [.agg (fC p),.agg (fC q)] (fun r=>r=.agg (fC (Bi p q))):=by
 refine HT.ofC rfl adK [4] rfl (Nat.le_of_ble_eq_true rfl) ?_
 unfold c29
 have htg:=qP [p,q] (by simp) (by simp [h1,h2])
 have e0:recs fC [p,q]=[.sl p.1.length (HL.bools p.1),.sl p.2.length (recs aC p.2),.sl q.1.length (HL.bools q.1),.sl q.2.length (recs aC q.2)]:=rfl
 rw [e0] at htg
 have hw:win [HV.sl p.1.length (HL.bools p.1),.sl p.2.length (recs aC p.2),.sl q.1.length (HL.bools q.1),.sl q.2.length (recs aC q.2)] 0 (2*2)=[.sl p.1.length (HL.bools p.1),.sl p.2.length (recs aC p.2),.sl q.1.length (HL.bools q.1),.sl q.2.length (recs aC q.2)]:=rfl
 have hst:stripL [HV.sl p.1.length (HL.bools p.1),.sl p.2.length (recs aC p.2),.sl q.1.length (HL.bools q.1),.sl q.2.length (recs aC q.2)]=[.sl p.1.length (HL.bools p.1),.sl p.2.length (recs aC p.2),.sl q.1.length (HL.bools q.1),.sl q.2.length (recs aC q.2)]:=by simp [stripL,HV.strip,HL.bools_strip,jf]
 simp only [aY,Nat.reduceAdd,fC]
 repeat (first|refine af ?_|refine ak ?_|refine ae ?_|refine fJ ?_|refine bQ ?_|refine dU ?_|refine bP eH ?_)
 refine bY bz (by simp (disch:=omega) only [dI,hw,hst,HV.thaw,dA,aG,aJ,if_true,if_false,reduceIte,Nat.reduceEqDiff,stripL,HV.strip,iD,iJ,Nat.mul_one,List.cons_append,List.nil_append,List.append_nil,I,Bl,T3,List.getD_cons_zero,List.getD_cons_succ,HL.ints_strip,HL.bools_strip,iW];try rfl) (htg) ?_
 rintro _ rfl
 cases hv:pU [p,q] with
 | false =>
  have ho:Bi p q=([],[]):=by unfold Bi;rw [hv];rfl
  refine ⟨bG,_,_,_,_,_,fU,(by decide),bu,?_⟩
  repeat (first|refine af ?_|refine ax ?_|refine ak ?_|refine ae ?_|refine iI (by rfl) ?_|refine cO ?_|refine di ?_)
  refine fD 32 [1,4] [4] (⟨[(4,.pref 0 [] 0)],[(0,.optr [.osl 1 0 [],.osl 4 0 []])],1⟩:St) rfl rfl ?_
  refine jR 0 [4] ⟨[(4,.pref 0 [] 0)],[(0,.optr [.sl 0 [],.sl 0 []])],1⟩ rfl rfl ?_
  refine ay ?_
  exact ⟨_,_,rfl,rfl,by rw [ho];rfl⟩
 | true =>
  obtain ⟨hp,hq,hs1,hs2⟩:=Ho hv
  have hcc:=Aq [[false],p.1,q.1] (by simp) (by simp;omega)
  have eb:bR [[false],p.1,q.1]=[.sl 1 [.bool false],.sl p.1.length (HL.bools p.1),.sl q.1.length (HL.bools q.1)]:=rfl
  have ef:[[false],p.1,q.1].flatten=false::(p.1++q.1):=by simp
  rw [eb,ef] at hcc
  have hw3:win [HV.osl 1 1 [.bool false],.sl p.1.length (HL.bools p.1),.sl q.1.length (HL.bools q.1)] 0 (3*1)=[HV.osl 1 1 [.bool false],.sl p.1.length (HL.bools p.1),.sl q.1.length (HL.bools q.1)]:=rfl
  have hst3:stripL [HV.osl 1 1 [.bool false],.sl p.1.length (HL.bools p.1),.sl q.1.length (HL.bools q.1)]=[.sl 1 [.bool false],.sl p.1.length (HL.bools p.1),.sl q.1.length (HL.bools q.1)]:=by simp [stripL,HV.strip,HL.bools_strip]
  refine ⟨bG,_,_,_,_,_,fU,(by decide),bu,?_⟩
  repeat (first|refine ah ?_|refine aZ ?_|refine af ?_|refine bH ?_|refine aQ ?_|refine au ?_|refine ak ?_|refine ae ?_|refine aF ?_|refine gW (by rfl) ?_|refine aI ?_|refine bQ ?_|refine uw eH bz aP jG (by simp) (by rfl) (by rfl) (by rfl) ?_)
  refine bY bz (by simp (disch:=omega) only [dI,hw3,hst3,HV.thaw,dA,aG,aJ,if_true,if_false,reduceIte,Nat.reduceEqDiff,stripL,HV.strip,iD,iJ,Nat.mul_one,List.cons_append,List.nil_append,List.append_nil,I,Bl,T3,List.getD_cons_zero,List.getD_cons_succ,HL.ints_strip,HL.bools_strip,iW];try rfl) (hcc) ?_
  rintro _ rfl
  refine ⟨bG,_,_,_,_,_,fU,(by decide),bu,?_⟩
  repeat (first|refine af ?_|refine cO ?_|refine bP eH ?_|refine di ?_)
  refine fD 336 [1,4] [2,3,4,5,6] (⟨[(2,.pref 0 [] 0),(3,.pref 1 [] 0),(4,.pref 2 [] 0),(5,.int .i64 (1+p.1.length)),(6,.pref 3 [] 0)],[(0,.optr (fC p)),(1,.optr (fC q)),(2,.optr [.nils,.nils]),(3,.optr [.osl 1 ((p.1++q.1).length+1) (HL.bools (false::(p.1++q.1))),.osl 4 0 []])],4⟩:St) rfl rfl ?_
  obtain ⟨L,hL⟩:∃L,[jm 0 1,jm 0 (1+(p.1.length:Int))]++p.2.map (iV 1)++q.2.map (iV (1+(p.1.length:Int)))=L:=⟨_,rfl⟩
  have ho:Bi p q=(false::(p.1++q.1),L):=by unfold Bi;rw [if_pos hv,<- hL];rfl
  refine VF (k:=[]) p q ((p.1++q.1).length+1) (HL.bools (false::(p.1++q.1))) hp hq (1+p.1.length) (by omega) L hL ?_
  refine bg 1 [4,6] ⟨[(4,.pref 0 [] 0),(6,.ptr (stripL [.osl 1 ((p.1++q.1).length+1) (HL.bools (false::(p.1++q.1))),.osl 4 L.length (recs aC L)]) 0)],[(0,.optr [.nils,.nils])],1⟩ rfl ?_
  rw [jd]
  unfold Qs
  repeat (first|refine af ?_|refine ak ?_|refine ae ?_|refine bn ?_|refine cO ?_)
  refine ay ?_
  exact ⟨_,_,rfl,rfl,by rw [ho];rfl⟩
end Go.Proofs.Ytlbdmpjnmfmnfaa
end
