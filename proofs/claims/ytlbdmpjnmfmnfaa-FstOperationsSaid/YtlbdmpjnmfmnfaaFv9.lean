import Derived.Test.YtlbdmpjnmfmnfaaFt8
import Derived.Test.YtlbdmpjnmfmnfaaFsB
import Derived.Test.YtlbdmpjnmfmnfaaFs2
set_option linter.unusedSimpArgs false
set_option linter.unusedVariables false
set_option linter.unnecessarySimpa false
set_option maxHeartbeats 8000000
section
namespace Go.Proofs.Ytlbdmpjnmfmnfaa
open Go.RowKit Go.HL Go.FS
def shC (d:Int):List HV->List HV
 | .int _ f::i::o::.int _ t::r=>.int .i64 (f+d)::i::o::.int .i64 (t+d)::shC d r
 | _=>[]
theorem jq (d:Int) (l:List A):shC d (recs aC l)=recs aC (l.map (mg d)):=by
 induction l with
 | nil=>rfl
 | cons a l ih =>
  show shC d (.int .i64 a.f::.int .i64 a.i::.int .i64 a.o::.int .i64 a.t::recs aC l)=_
  simp only [shC,ih]
  rfl
def oH:List HV->HV
 | [.int _ a,.int _ b]=>.agg (aC (jm a b))
 | [.int _ d]=>.fn 104 [.optr [.int .i64 d]]
 | [.osl _ n cs,.agg [_,.sl m ds],.fn _ [.optr [.int _ d]]]=>.osl 4 (n+m) (cs++shC d ds)
 | [.nils,.agg [_,.sl m ds],.fn _ [.optr [.int _ d]]]=>.osl 4 m (shC d ds)
 | _=>.dead
def DG:DS:=⟨fun _ args r=>r=oH args,fun f=>f==75⟩
theorem Zd (R:List A) (fin:List Bool) (al:List A) (d:Int) (hv:okF fin al=true) (hd:0<=d/\d<=1000000) (hR:R.length<=1000000) :
  HTM Try.prog 75 [.osl 4 R.length (recs aC R),.agg [.sl fin.length (HL.bools fin),.sl al.length (recs aC al)],.fn 104 [.optr [.int .i64 d]]] (fun r=>r=oH [.osl 4 R.length (recs aC R),.agg [.sl fin.length (HL.bools fin),.sl al.length (recs aC al)],.fn 104 [.optr [.int .i64 d]]]):=by
 refine (Yg R fin al d hv hd hR).mono fun r _ h=>?_
 rw [h]
 simp only [oH,jq,bD,List.length_map]
 rw [mF]
theorem ae5 (fin:List Bool) (al:List A) (d:Int) (hv:okF fin al=true) (hd:0<=d/\d<=1000000) :
  HTM Try.prog 75 [.nils,.agg [.sl fin.length (HL.bools fin),.sl al.length (recs aC al)],.fn 104 [.optr [.int .i64 d]]] (fun r=>r=oH [.nils,.agg [.sl fin.length (HL.bools fin),.sl al.length (recs aC al)],.fn 104 [.optr [.int .i64 d]]]):=by
 refine HTM.nil0 (sz:=4) ((Yg [] fin al d hv hd (by simp)).mono fun r _ h=>?_)
 rw [h]
 simp only [oH,jq,List.nil_append,List.length_map]
theorem acn {k:List HI} [hp:Plain k] {rs:List Nat} {Kp:HV->Prop} (p q:Tn) (m:Nat) (B:List HV) (hv:okF p.1 p.2=true) (hq:okF q.1 q.2=true) (d:Int) (hd:0<=d/\d<=1000000) (L:List A) (hL:[jm 0 1,jm 0 d]++p.2.map (mg 1)++q.2.map (mg d)=L)
  (h:hx Try.prog (.c WH::k) (finish rs Kp) ⟨[(4,.pref 0 [] 0),(6,.pref 1 [] 0)],[(0,.optr [.nils,.nils]),(1,.optr [.osl 1 m B,.osl 4 L.length (recs aC L)])],2⟩) :
  hx Try.prog (.c Yq::k) (finish rs Kp) ⟨[(2,.pref 0 [] 0),(3,.pref 1 [] 0),(4,.pref 2 [] 0),(5,.int .i64 d),(6,.pref 3 [] 0)],[(0,.optr (fC p)),(1,.optr (fC q)),(2,.optr [.nils,.nils]),(3,.optr [.osl 1 m B,.osl 4 0 []])],4⟩:=by
 obtain ⟨p1,p2,p3⟩:=bY hv
 obtain ⟨q1,q2,q3⟩:=bY hq
 unfold Yq
 refine aH ?_
 simp only [fC]
 refine ve DG ah ?_
 refine tN (vs:=[.int .i64 0,.int .i64 1]) (args:=[.int .i64 0,.int .i64 1]) rfl rfl rfl (BA 0 1) ⟨_,rfl,rfl⟩ rfl ?_
 rintro _ rfl -
 refine ⟨by rfl,.agg (aC (jm 0 1)),[],4,_,_,_,rfl,by simp [stride],rfl,by kernel_rfl,gY,?_⟩
 refine dP (.int .i64 d) _ rfl rfl (by trivial) rfl ah ?_
 refine tN (vs:=[.int .i64 0,.int .i64 d]) (args:=[.int .i64 0,.int .i64 d]) rfl rfl rfl (BA 0 d) ⟨_,rfl,rfl⟩ rfl ?_
 rintro _ rfl -
 refine ⟨by rfl,.agg (aC (jm 0 d)),[],36,_,_,_,rfl,by simp [stride],rfl,by kernel_rfl,gY,?_⟩
 refine Bg (.ref 52 [] 4 0 2) [.put 52 (.osl 4 2 (recs aC [jm 0 1,jm 0 d]))] rfl rfl rfl zV rfl rfl ah gY ?_
 refine dP (.agg [.sl p.1.length (HL.bools p.1),.sl p.2.length (recs aC p.2)]) _ rfl rfl ⟨aZ rfl,aZ rfl,rfl⟩ rfl ah ?_
 refine tN (vs:=[.int .i64 1]) (args:=[.int .i64 1]) rfl rfl rfl (Dq 1) ⟨_,rfl,rfl⟩ rfl ?_
 rintro _ rfl -
 refine ⟨by rfl,.fn 104 [.pref 84 [] 0],[.put 84 (.optr [.int .i64 1])],85,_,_,_,rfl,by simp [stride],rfl,by kernel_rfl,(by simp only [List.nil_append,uT,Bz];rfl),?_⟩
 refine Md (vs:=[.ref 52 [] 4 0 2,.agg [.sl p.1.length (HL.bools p.1),.sl p.2.length (recs aC p.2)],.fn 104 [.pref 84 [] 0]]) (args:=[.osl 4 2 (recs aC [jm 0 1,jm 0 d]),.agg [.sl p.1.length (HL.bools p.1),.sl p.2.length (recs aC p.2)],.fn 104 [.optr [.int .i64 1]]]) (ut:=[.put 52 .dead,.put 84 .dead]) rfl rfl rfl (by repeat (first|trivial|refine ⟨?_,?_⟩)) (Zd [jm 0 1,jm 0 d] p.1 p.2 1 hv ⟨by omega,by omega⟩ (by simp)) ⟨_,rfl,by simp [oH,HV.deep,kT,bP,jq]⟩ rfl ?_
 rintro _ rfl -
 have e1:oH [.osl 4 2 (recs aC [jm 0 1,jm 0 d]),.agg [.sl p.1.length (HL.bools p.1),.sl p.2.length (recs aC p.2)],.fn 104 [.optr [.int .i64 1]]]=.osl 4 ([jm 0 1,jm 0 d]++p.2.map (mg 1)).length (recs aC ([jm 0 1,jm 0 d]++p.2.map (mg 1))):=by
  simp only [oH,jq,mF,bD,List.length_map,List.length_cons,List.length_nil]
 rw [e1]
 have hR1:([jm 0 1,jm 0 d]++p.2.map (mg 1)).length<=10000:=by simp;omega
 generalize [jm 0 1,jm 0 d]++p.2.map (mg 1)=R at hL hR1 ⊢
 refine ⟨.ref 100 [] 4 0 R.length,[.put 100 (.osl 4 R.length (recs aC R))],101,_,_,_,rfl,by simp [stride],rfl,by kernel_rfl,(by simp only [List.cons_append,List.nil_append,uT,Bz];rfl),?_⟩
 refine dP (.agg [.sl q.1.length (HL.bools q.1),.sl q.2.length (recs aC q.2)]) _ rfl rfl ⟨aZ rfl,aZ rfl,rfl⟩ rfl ah ?_
 refine dP (.int .i64 d) _ rfl rfl (by trivial) rfl ah ?_
 refine tN (vs:=[.int .i64 d]) (args:=[.int .i64 d]) rfl rfl rfl (Dq d) ⟨_,rfl,rfl⟩ rfl ?_
 rintro _ rfl -
 refine ⟨by rfl,.fn 104 [.pref 148 [] 0],[.put 148 (.optr [.int .i64 d])],149,_,_,_,rfl,by simp [stride],rfl,by kernel_rfl,(by simp only [List.nil_append,uT,Bz];rfl),?_⟩
 refine Md (vs:=[.ref 100 [] 4 0 R.length,.agg [.sl q.1.length (HL.bools q.1),.sl q.2.length (recs aC q.2)],.fn 104 [.pref 148 [] 0]]) (args:=[.osl 4 R.length (recs aC R),.agg [.sl q.1.length (HL.bools q.1),.sl q.2.length (recs aC q.2)],.fn 104 [.optr [.int .i64 d]]]) (ut:=[.put 100 .dead,.put 148 .dead]) rfl rfl rfl (by repeat (first|trivial|refine ⟨?_,?_⟩)) (Zd R q.1 q.2 d hq hd (by omega)) ⟨_,rfl,by simp [oH,HV.deep,kT,bP,jq]⟩ rfl ?_
 rintro _ rfl -
 have e2:oH [.osl 4 R.length (recs aC R),.agg [.sl q.1.length (HL.bools q.1),.sl q.2.length (recs aC q.2)],.fn 104 [.optr [.int .i64 d]]]=.osl 4 L.length (recs aC L):=by
  rw [<- hL]
  simp only [oH,jq,mF,bD,List.length_map]
 rw [e2]
 refine ⟨.ref 164 [] 4 0 L.length,[.put 164 (.osl 4 L.length (recs aC L))],165,_,_,_,rfl,by simp [stride],rfl,by kernel_rfl,(by simp only [List.cons_append,List.nil_append,uT,Bz];rfl),?_⟩
 refine dP (.pref 3 [] 1) _ rfl rfl (by trivial) rfl ah ?_
 refine Bg (side:=((0=0/\L.length=L.length)/\True)/\[HV.osl 4 L.length (recs aC L)].length=1/\0<1/\1+1<=2/\(false=true->aV [HV.osl 4 L.length (recs aC L)]=true)) .dead [.put 164 .dead,.kill 3 0,.put 3 (.optr [.osl 1 m B,.osl 4 L.length (recs aC L)])] rfl rfl rfl ⟨⟨⟨rfl,rfl⟩,trivial⟩,rfl,rO,bg _,fun h=>absurd h (by decide)⟩ rfl rfl ah gY ?_
 refine JA rfl ?_
 exact aY [4,6] _ rfl h
theorem ad3 (p q:Tn) (h1:p.1.length<=1000000000/\p.2.length<=1000000000) (h2:q.1.length<=1000000000/\q.2.length<=1000000000):HT Try.prog 29 [.agg (fC p),.agg (fC q)] (fun r=>r=.agg (fC (I9 p q))):=by
 refine HT.ofC rfl agk [4] rfl (aZ rfl) ?_
 unfold c29
 have htg:=yP [p,q] (by simp) (by simp [h1,h2])
 have e0:recs fC [p,q]=[.sl p.1.length (HL.bools p.1),.sl p.2.length (recs aC p.2),.sl q.1.length (HL.bools q.1),.sl q.2.length (recs aC q.2)]:=rfl
 rw [e0] at htg
 have hw:win [HV.sl p.1.length (HL.bools p.1),.sl p.2.length (recs aC p.2),.sl q.1.length (HL.bools q.1),.sl q.2.length (recs aC q.2)] 0 (2*2)=[.sl p.1.length (HL.bools p.1),.sl p.2.length (recs aC p.2),.sl q.1.length (HL.bools q.1),.sl q.2.length (recs aC q.2)]:=rfl
 have hst:stripL [HV.sl p.1.length (HL.bools p.1),.sl p.2.length (recs aC p.2),.sl q.1.length (HL.bools q.1),.sl q.2.length (recs aC q.2)]=[.sl p.1.length (HL.bools p.1),.sl p.2.length (recs aC p.2),.sl q.1.length (HL.bools q.1),.sl q.2.length (recs aC q.2)]:=by simp [stripL,HV.strip,HL.bools_strip,gQ]
 simp only [aA,Nat.reduceAdd,fC]
 refine zF ⟨?_⟩
 refine aF ay (zW (zA @hw @hst)) (htg) ?_
 rintro _ rfl
 cases hv:Dc [p,q] with
 | false =>
  have ho:I9 p q=([],[]):=by unfold I9;rw [hv];rfl
  refine zG ⟨?_⟩
  refine zF ⟨?_⟩
  refine aX 32 [1,4] [4] (⟨[(4,.pref 0 [] 0)],[(0,.optr [.osl 1 0 [],.osl 4 0 []])],1⟩:St) rfl rfl ?_
  refine bQ 0 [4] ⟨[(4,.pref 0 [] 0)],[(0,.optr [.sl 0 [],.sl 0 []])],1⟩ rfl rfl ?_
  refine ae ?_
  exact ⟨_,_,rfl,rfl,by rw [ho];rfl⟩
 | true =>
  obtain ⟨hp,hq,hs1,hs2⟩:=Vb hv
  have hcc:=I4 [[false],p.1,q.1] (by simp) (by simp;omega)
  have eb:bR [[false],p.1,q.1]=[.sl 1 [.bool false],.sl p.1.length (HL.bools p.1),.sl q.1.length (HL.bools q.1)]:=rfl
  have ef:[[false],p.1,q.1].flatten=false::(p.1++q.1):=by simp
  rw [eb,ef] at hcc
  have hw3:win [HV.osl 1 1 [.bool false],.sl p.1.length (HL.bools p.1),.sl q.1.length (HL.bools q.1)] 0 (3*1)=[HV.osl 1 1 [.bool false],.sl p.1.length (HL.bools p.1),.sl q.1.length (HL.bools q.1)]:=rfl
  have hst3:stripL [HV.osl 1 1 [.bool false],.sl p.1.length (HL.bools p.1),.sl q.1.length (HL.bools q.1)]=[.sl 1 [.bool false],.sl p.1.length (HL.bools p.1),.sl q.1.length (HL.bools q.1)]:=by simp [stripL,HV.strip,HL.bools_strip]
  refine zG ⟨?_⟩
  refine zF ⟨?_⟩
  refine aF ay (zW (zA @hw3 @hst3)) (hcc) ?_
  rintro _ rfl
  refine zG ⟨?_⟩
  refine zQ ⟨?_⟩
  refine aX 336 [1,4] [2,3,4,5,6] (⟨[(2,.pref 0 [] 0),(3,.pref 1 [] 0),(4,.pref 2 [] 0),(5,.int .i64 (1+p.1.length)),(6,.pref 3 [] 0)],[(0,.optr (fC p)),(1,.optr (fC q)),(2,.optr [.nils,.nils]),(3,.optr [.osl 1 ((p.1++q.1).length+1) (HL.bools (false::(p.1++q.1))),.osl 4 0 []])],4⟩:St) rfl rfl ?_
  obtain ⟨L,hL⟩:∃L,[jm 0 1,jm 0 (1+(p.1.length:Int))]++p.2.map (mg 1)++q.2.map (mg (1+(p.1.length:Int)))=L:=⟨_,rfl⟩
  have ho:I9 p q=(false::(p.1++q.1),L):=by unfold I9;rw [if_pos hv,<- hL];rfl
  refine acn (k:=[]) p q ((p.1++q.1).length+1) (HL.bools (false::(p.1++q.1))) hp hq (1+p.1.length) (by omega) L hL ?_
  refine az 1 [4,6] ⟨[(4,.pref 0 [] 0),(6,.ptr (stripL [.osl 1 ((p.1++q.1).length+1) (HL.bools (false::(p.1++q.1))),.osl 4 L.length (recs aC L)]) 0)],[(0,.optr [.nils,.nils])],1⟩ rfl ?_
  rw [fD]
  unfold WH
  refine zF ⟨?_⟩
  refine ae ?_
  exact ⟨_,_,rfl,rfl,by rw [ho];rfl⟩
theorem YB {k:List HI} [hp:Plain k] {rs:List Nat} {Kp:HV->Prop} (p q:Tn) (m:Nat) (B:List HV) (hv:okF p.1 p.2=true) (hq:okF q.1 q.2=true) (d:Int) (hd:0<=d/\d<=1000000) (L:List A) (hL:p.2.map (mg 0)++q.2.map (mg d)=L)
  (h:hx Try.prog (.c Y0::k) (finish rs Kp) ⟨[(2,.pref 0 [] 0),(4,.pref 1 [] 0),(5,.int .i64 d),(6,.pref 2 [] 0)],[(0,.optr (fC p)),(1,.optr [.nils,.nils]),(2,.optr [.osl 1 m B,.osl 4 L.length (recs aC L)])],3⟩) :
  hx Try.prog (.c Ya::k) (finish rs Kp) ⟨[(2,.pref 0 [] 0),(3,.pref 1 [] 0),(4,.pref 2 [] 0),(5,.int .i64 d),(6,.pref 3 [] 0)],[(0,.optr (fC p)),(1,.optr (fC q)),(2,.optr [.nils,.nils]),(3,.optr [.osl 1 m B,.osl 4 0 []])],4⟩:=by
 obtain ⟨p1,p2,p3⟩:=bY hv
 obtain ⟨q1,q2,q3⟩:=bY hq
 unfold Ya
 refine aH ?_
 simp only [fC]
 refine ve DG ah ?_
 refine dP (.agg [.sl p.1.length (HL.bools p.1),.sl p.2.length (recs aC p.2)]) _ rfl rfl ⟨aZ rfl,aZ rfl,rfl⟩ rfl ah ?_
 refine tN (vs:=[.int .i64 0]) (args:=[.int .i64 0]) rfl rfl rfl (Dq 0) ⟨_,rfl,rfl⟩ rfl ?_
 rintro _ rfl -
 refine ⟨by rfl,.fn 104 [.pref 20 [] 0],[.put 20 (.optr [.int .i64 0])],21,_,_,_,rfl,by simp [stride],rfl,by kernel_rfl,(by simp only [List.nil_append,uT,Bz];rfl),?_⟩
 refine Md (vs:=[.nils,.agg [.sl p.1.length (HL.bools p.1),.sl p.2.length (recs aC p.2)],.fn 104 [.pref 20 [] 0]]) (args:=[.nils,.agg [.sl p.1.length (HL.bools p.1),.sl p.2.length (recs aC p.2)],.fn 104 [.optr [.int .i64 0]]]) (ut:=[.put 20 .dead]) rfl rfl rfl (by repeat (first|trivial|refine ⟨?_,?_⟩)) (ae5 p.1 p.2 0 hv ⟨by omega,by omega⟩) ⟨_,rfl,by simp [oH,HV.deep,bP,jq]⟩ rfl ?_
 rintro _ rfl -
 have e1:oH [.nils,.agg [.sl p.1.length (HL.bools p.1),.sl p.2.length (recs aC p.2)],.fn 104 [.optr [.int .i64 0]]]=.osl 4 (p.2.map (mg 0)).length (recs aC (p.2.map (mg 0))):=by
  simp only [oH,jq,List.length_map]
 rw [e1]
 have hR1:(p.2.map (mg 0)).length<=10000:=by simp;omega
 generalize p.2.map (mg 0)=R at hL hR1 ⊢
 refine ⟨.ref 36 [] 4 0 R.length,[.put 36 (.osl 4 R.length (recs aC R))],37,_,_,_,rfl,by simp [stride],rfl,by kernel_rfl,(by simp only [List.cons_append,List.nil_append,uT,Bz];rfl),?_⟩
 refine dP (.agg [.sl q.1.length (HL.bools q.1),.sl q.2.length (recs aC q.2)]) _ rfl rfl ⟨aZ rfl,aZ rfl,rfl⟩ rfl ah ?_
 refine dP (.int .i64 d) _ rfl rfl (by trivial) rfl ah ?_
 refine tN (vs:=[.int .i64 d]) (args:=[.int .i64 d]) rfl rfl rfl (Dq d) ⟨_,rfl,rfl⟩ rfl ?_
 rintro _ rfl -
 refine ⟨by rfl,.fn 104 [.pref 84 [] 0],[.put 84 (.optr [.int .i64 d])],85,_,_,_,rfl,by simp [stride],rfl,by kernel_rfl,(by simp only [List.nil_append,uT,Bz];rfl),?_⟩
 refine Md (vs:=[.ref 36 [] 4 0 R.length,.agg [.sl q.1.length (HL.bools q.1),.sl q.2.length (recs aC q.2)],.fn 104 [.pref 84 [] 0]]) (args:=[.osl 4 R.length (recs aC R),.agg [.sl q.1.length (HL.bools q.1),.sl q.2.length (recs aC q.2)],.fn 104 [.optr [.int .i64 d]]]) (ut:=[.put 36 .dead,.put 84 .dead]) rfl rfl rfl (by repeat (first|trivial|refine ⟨?_,?_⟩)) (Zd R q.1 q.2 d hq hd (by omega)) ⟨_,rfl,by simp [oH,HV.deep,kT,bP,jq]⟩ rfl ?_
 rintro _ rfl -
 have e2:oH [.osl 4 R.length (recs aC R),.agg [.sl q.1.length (HL.bools q.1),.sl q.2.length (recs aC q.2)],.fn 104 [.optr [.int .i64 d]]]=.osl 4 L.length (recs aC L):=by
  rw [<- hL]
  simp only [oH,jq,mF,bD,List.length_map]
 rw [e2]
 refine ⟨.ref 100 [] 4 0 L.length,[.put 100 (.osl 4 L.length (recs aC L))],101,_,_,_,rfl,by simp [stride],rfl,by kernel_rfl,(by simp only [List.cons_append,List.nil_append,uT,Bz];rfl),?_⟩
 refine dP (.pref 3 [] 1) _ rfl rfl (by trivial) rfl ah ?_
 refine Bg (side:=((0=0/\L.length=L.length)/\True)/\[HV.osl 4 L.length (recs aC L)].length=1/\0<1/\1+1<=2/\(false=true->aV [HV.osl 4 L.length (recs aC L)]=true)) .dead [.put 100 .dead,.kill 3 0,.put 3 (.optr [.osl 1 m B,.osl 4 L.length (recs aC L)])] rfl rfl rfl ⟨⟨⟨rfl,rfl⟩,trivial⟩,rfl,rO,bg _,fun h=>absurd h (by decide)⟩ rfl rfl ah gY ?_
 refine JA rfl ?_
 exact aY [2,4,5,6] _ rfl h
def jmD:List HV->HV
 | [.int _ a,.int _ b]=>.agg (aC (jm a b))
 | _=>.dead
theorem SA {args:List HV} {fr:Nat}:(unpack fr (jmD args)).1.inn F0:=by
 unfold jmD
 split
 ·intro x hx
  simp [unpack,aW,aC,HV.deep,aO] at hx
 ·intro x hx
  simp [unpack,HV.deep] at hx
theorem SQ {l:List Int} {i:Nat} (h:i<l.length) {f:Int->A}:(l.take (i+1)).map f=(l.take i).map f++[f (l.getD i 0)]:=by
 have:=bK h
 rw [this,qj];rfl
theorem ZY (p q:Tn) (h1:p.1.length<=1000000000/\p.2.length<=1000000000) (h2:q.1.length<=1000000000/\q.2.length<=1000000000):HT Try.prog 30 [.agg (fC p),.agg (fC q)] (fun r=>r=.agg (fC (oJ p q))):=by
 refine HT.ofC rfl afz [4] rfl (aZ rfl) ?_
 unfold c30
 have htg:=yP [p,q] (by simp) (by simp [h1,h2])
 have e0:recs fC [p,q]=[.sl p.1.length (HL.bools p.1),.sl p.2.length (recs aC p.2),.sl q.1.length (HL.bools q.1),.sl q.2.length (recs aC q.2)]:=rfl
 rw [e0] at htg
 have hw:win [HV.sl p.1.length (HL.bools p.1),.sl p.2.length (recs aC p.2),.sl q.1.length (HL.bools q.1),.sl q.2.length (recs aC q.2)] 0 (2*2)=[.sl p.1.length (HL.bools p.1),.sl p.2.length (recs aC p.2),.sl q.1.length (HL.bools q.1),.sl q.2.length (recs aC q.2)]:=rfl
 have hst:stripL [HV.sl p.1.length (HL.bools p.1),.sl p.2.length (recs aC p.2),.sl q.1.length (HL.bools q.1),.sl q.2.length (recs aC q.2)]=[.sl p.1.length (HL.bools p.1),.sl p.2.length (recs aC p.2),.sl q.1.length (HL.bools q.1),.sl q.2.length (recs aC q.2)]:=by simp [stripL,HV.strip,HL.bools_strip,gQ]
 simp only [aA,Nat.reduceAdd,fC]
 refine zF ⟨?_⟩
 refine aF ay (zW (zA @hw @hst)) (htg) ?_
 rintro _ rfl
 cases hv:Dc [p,q] with
 | false =>
  have ho:oJ p q=([],[]):=by unfold oJ;rw [hv];rfl
  refine zG ⟨?_⟩
  refine zF ⟨?_⟩
  refine aX 32 [1,4] [4] (⟨[(4,.pref 0 [] 0)],[(0,.optr [.osl 1 0 [],.osl 4 0 []])],1⟩:St) rfl rfl ?_
  refine bQ 0 [4] ⟨[(4,.pref 0 [] 0)],[(0,.optr [.sl 0 [],.sl 0 []])],1⟩ rfl rfl ?_
  refine ae ?_
  exact ⟨_,_,rfl,rfl,by rw [ho];rfl⟩
 | true =>
  obtain ⟨hp,hq,hs1,hs2⟩:=Vb hv
  have hcc:=I4 [List.replicate p.1.length false,q.1] (by simp) (by simp;omega)
  have eb:bR [List.replicate p.1.length false,q.1]=[.sl p.1.length (HL.bools (List.replicate p.1.length false)),.sl q.1.length (HL.bools q.1)]:=by
   show [HV.sl (List.replicate p.1.length false).length _,_]=_
   rw [List.length_replicate]
  have ef:[List.replicate p.1.length false,q.1].flatten=List.replicate p.1.length false++q.1:=by simp
  have hnl:(List.replicate p.1.length false++q.1).length=p.1.length+q.1.length:=by simp
  rw [eb,ef,hnl] at hcc
  have hnt:(p.1.length:Int).toNat=p.1.length:=by omega
  have hw3:win [HV.osl 1 p.1.length (HL.bools (List.replicate p.1.length false)),.sl q.1.length (HL.bools q.1)] 0 (2*1)=[HV.osl 1 p.1.length (HL.bools (List.replicate p.1.length false)),.sl q.1.length (HL.bools q.1)]:=rfl
  have hst3:stripL [HV.osl 1 p.1.length (HL.bools (List.replicate p.1.length false)),.sl q.1.length (HL.bools q.1)]=[.sl p.1.length (HL.bools (List.replicate p.1.length false)),.sl q.1.length (HL.bools q.1)]:=by simp [stripL,HV.strip,HL.bools_strip]
  obtain ⟨B,hB⟩:∃B,List.replicate p.1.length false++q.1=B:=⟨_,rfl⟩
  rw [hB] at hcc hnl
  rw [<- hnl] at hcc
  have hfl:=nJ p.1 p.1.length
  have hfi:∀i∈jA p.1 p.1.length,0<=i/\i<p.1.length:=fun i hi=>by
   obtain ⟨h1,h2⟩:=mem_finL.1 hi
   refine ⟨h1,?_⟩
   by_cases h:i.toNat<p.1.length
   ·omega
   ·rw [bH,qg (by omega)] at h2;cases h2
  refine zG ⟨?_⟩
  refine zF ⟨?_⟩
  refine bG ah ah (fun _ _ r=>r=.osl 1 B.length (HL.bools B)) ?_
  refine eH @hnt ⟨?_⟩
  refine bI ay (zW (zA @hw3 @hst3)) hcc ⟨_,rfl,by simp [HV.deep,bJ]⟩ ?_
  rintro _ rfl -
  refine zG ⟨?_⟩
  refine zQ ⟨?_⟩
  refine aX 304 [1,4] [2,3,4,5,6] (⟨[(2,.pref 0 [] 0),(3,.pref 1 [] 0),(4,.pref 2 [] 0),(5,.int .i64 p.1.length),(6,.pref 3 [] 0)],[(0,.optr (fC p)),(1,.optr (fC q)),(2,.optr [.nils,.nils]),(3,.optr [.osl 1 B.length (HL.bools B),.osl 4 0 []])],4⟩:St) rfl rfl ?_
  obtain ⟨L,hL⟩:∃L,p.2.map (mg 0)++q.2.map (mg (p.1.length:Int))=L:=⟨_,rfl⟩
  have hLl:L.length<=6000:=by rw [<- hL];simp;omega
  have ho:oJ p q=(B,L++(jA p.1 p.1.length).map fun i=>jm i p.1.length):=by unfold oJ;rw [if_pos hv,<- hL,<- hB]
  refine YB (k:=[]) p q B.length (HL.bools B) hp hq p.1.length (by omega) L hL ?_
  clear hL hcc htg
  have hfin:=zN p.1 (by omega)
  generalize hF:jA p.1 p.1.length=Fl at hfin hfl hfi ho
  unfold Y0
  simp only [fC]
  refine zF ⟨?_⟩
  refine aF ay aK (hfin) ?_
  rintro _ rfl
  refine zG ⟨?_⟩
  refine zL ⟨?_⟩
  refine az 35 [4,5,6,35,36,37] ⟨[(4,.pref 0 [] 0),(5,.int .i64 p.1.length),(6,.pref 1 [] 0),(35,.sl Fl.length (stripL (win (HL.ints Fl) 0 (Fl.length*1)))),(36,.int .i64 Fl.length),(37,.int .i64 0)],[(0,.optr [.nils,.nils]),(1,.optr [.osl 1 B.length (HL.bools B),.osl 4 L.length (recs aC L)])],2⟩ rfl ?_
  rw [show stripL (win (HL.ints Fl) 0 (Fl.length*1))=HL.ints Fl by rw [eG _ (by simp [HL.ints]),HL.ints_strip]]
  refine aI [4,5,6,35,36,37] (fun i:Nat=>i<=Fl.length)
   (fun i=>⟨[(4,.pref 0 [] 0),(5,.int .i64 p.1.length),(6,.pref 1 [] 0),(35,.sl Fl.length (HL.ints Fl)),(36,.int .i64 Fl.length),(37,.int .i64 i)],[(0,.optr [.nils,.nils]),(1,.optr [.osl 1 B.length (HL.bools B),.osl 4 (L++(Fl.take i).map fun i=>jm i p.1.length).length (recs aC (L++(Fl.take i).map fun i=>jm i p.1.length))])],2⟩)
   (fun i=>Fl.length - i) 0 (by omega) (by simp;rfl) ?_
  intro i hi
  have hRl:(L++(Fl.take i).map fun i=>jm i p.1.length).length<=10000:=by rw [bD,List.length_map,dS];omega
  by_cases hil:i<Fl.length
  ·have hst:L++(Fl.take (i+1)).map (fun i=>jm i p.1.length)=(L++(Fl.take i).map fun i=>jm i p.1.length)++[jm (Fl.getD i 0) p.1.length]:=by rw [SQ hil,kQ]
   generalize hQ:(L++(Fl.take i).map fun i=>jm i p.1.length)=Q at hst hRl ⊢
   have hj:=BA (Fl.getD i 0) p.1.length
   refine zF ⟨?_⟩
   refine iW [5,8] [] ah ah (fun _ args r=>r=jmD args) (by simp [ax,HV.deep]) (by simp) ?_ (by rintro _ _ _ rfl fr;exact SA)
   refine zF ⟨?_⟩
   refine bI ay aK hj ⟨_,rfl,rfl⟩ ?_
   rintro _ rfl -
   simp only [jmD,jm,aC]
   refine zG ⟨?_⟩
   refine zF ⟨?_⟩
   refine aP [4,5,6,35,36,37] (i+1) hil (by omega) ?_
   simp only [jm] at hst
   rw [hst]
   simp only [bD,jQ]
   rfl
  ·obtain rfl:i=Fl.length:=by omega
   rw [fK] at hRl ⊢
   have hQ:=ho
   generalize L++Fl.map (fun i=>jm i p.1.length)=Q at hQ hRl ⊢
   refine aH ?_
   refine au ?_
   refine zQ ⟨?_⟩
   refine aH ?_
   refine bu (by rfl) ?_
   refine iY (by rfl) ?_
   refine az 1 [4,6] ⟨[(4,.pref 0 [] 0),(6,.ptr (stripL [.osl 1 B.length (HL.bools B),.osl 4 Q.length (recs aC Q)]) 0)],[(0,.optr [.nils,.nils])],1⟩ rfl ?_
   rw [fD]
   refine zF ⟨?_⟩
   refine ae ?_
   exact ⟨_,_,rfl,rfl,by rw [hQ];rfl⟩
end Go.Proofs.Ytlbdmpjnmfmnfaa
end
