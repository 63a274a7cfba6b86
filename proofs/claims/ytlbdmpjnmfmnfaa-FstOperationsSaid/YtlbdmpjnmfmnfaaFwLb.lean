import Derived.Test.YtlbdmpjnmfmnfaaFv9
import Derived.Test.YtlbdmpjnmfmnfaaFsB
import Derived.Test.YtlbdmpjnmfmnfaaFs2
import Derived.Test.YtlbdmpjnmfmnfaaFv2
import Derived.Test.YtlbdmpjnmfmnfaaHlRo
import Derived.Test.YtlbdmpjnmfmnfaaHlLg
import Derived.Test.YtlbdmpjnmfmnfaaCodesFstLaws
import Derived.Test.YtlbdmpjnmfmnfaaFt3
set_option linter.unusedSimpArgs false
set_option linter.unusedVariables false
set_option linter.unnecessarySimpa false
set_option maxHeartbeats 8000000
section
namespace Go.Proofs.Ytlbdmpjnmfmnfaa
open Go.RowKit Go.HL Go.FS
theorem Yh {k:List HI} [hp:Plain k] {rs:List Nat} {Kp:HV->Prop} (p:Tn) (m:Nat) (B:List HV) (hv:okF p.1 p.2=true) (L:List A) (hL:[jm 0 1]++p.2.map (mg 1)=L)
  (h:hx Try.prog (.c XB::k) (finish rs Kp) ⟨[(1,.pref 0 [] 0),(2,.pref 1 [] 0),(3,.pref 2 [] 0)],[(0,.optr (fC p)),(1,.optr [.nils,.nils]),(2,.optr [.osl 1 m B,.osl 4 L.length (recs aC L)])],3⟩) :
  hx Try.prog (.c Yf::k) (finish rs Kp) ⟨[(1,.pref 0 [] 0),(2,.pref 1 [] 0),(3,.pref 2 [] 0)],[(0,.optr (fC p)),(1,.optr [.nils,.nils]),(2,.optr [.osl 1 m B,.osl 4 0 []])],3⟩:=by
 obtain ⟨p1,p2,p3⟩:=bY hv
 unfold Yf
 refine aH ?_
 simp only [fC]
 refine ve DG ah ?_
 refine tN (vs:=[.int .i64 0,.int .i64 1]) (args:=[.int .i64 0,.int .i64 1]) rfl rfl rfl (BA 0 1) ⟨_,rfl,rfl⟩ rfl ?_
 rintro _ rfl -
 refine ⟨by rfl,.agg (aC (jm 0 1)),[],3,_,_,_,rfl,by simp [stride],rfl,by kernel_rfl,gY,?_⟩
 refine Bg (.ref 19 [] 4 0 1) [.put 19 (.osl 4 1 (recs aC [jm 0 1]))] rfl rfl rfl zV rfl rfl ah gY ?_
 refine dP (.agg [.sl p.1.length (HL.bools p.1),.sl p.2.length (recs aC p.2)]) _ rfl rfl ⟨aZ rfl,aZ rfl,rfl⟩ rfl ah ?_
 refine tN (vs:=[.int .i64 1]) (args:=[.int .i64 1]) rfl rfl rfl (Dq 1) ⟨_,rfl,rfl⟩ rfl ?_
 rintro _ rfl -
 refine ⟨by rfl,.fn 104 [.pref 51 [] 0],[.put 51 (.optr [.int .i64 1])],52,_,_,_,rfl,by simp [stride],rfl,by kernel_rfl,(by simp only [List.nil_append,uT,Bz];rfl),?_⟩
 refine Md (vs:=[.ref 19 [] 4 0 1,.agg [.sl p.1.length (HL.bools p.1),.sl p.2.length (recs aC p.2)],.fn 104 [.pref 51 [] 0]]) (args:=[.osl 4 1 (recs aC [jm 0 1]),.agg [.sl p.1.length (HL.bools p.1),.sl p.2.length (recs aC p.2)],.fn 104 [.optr [.int .i64 1]]]) (ut:=[.put 19 .dead,.put 51 .dead]) rfl rfl rfl (by repeat (first|trivial|refine ⟨?_,?_⟩)) (Zd [jm 0 1] p.1 p.2 1 hv ⟨by omega,by omega⟩ (by simp)) ⟨_,rfl,by simp [oH,HV.deep,kT,bP,jq]⟩ rfl ?_
 rintro _ rfl -
 have e1:oH [.osl 4 1 (recs aC [jm 0 1]),.agg [.sl p.1.length (HL.bools p.1),.sl p.2.length (recs aC p.2)],.fn 104 [.optr [.int .i64 1]]]=.osl 4 L.length (recs aC L):=by
  rw [<- hL]
  simp only [oH,jq,mF,bD,List.length_map,List.length_cons,List.length_nil]
 rw [e1]
 refine ⟨.ref 67 [] 4 0 L.length,[.put 67 (.osl 4 L.length (recs aC L))],68,_,_,_,rfl,by simp [stride],rfl,by kernel_rfl,(by simp only [List.cons_append,List.nil_append,uT,Bz];rfl),?_⟩
 refine dP (.pref 2 [] 1) _ rfl rfl (by trivial) rfl ah ?_
 refine Bg (side:=((0=0/\L.length=L.length)/\True)/\[HV.osl 4 L.length (recs aC L)].length=1/\0<1/\1+1<=2/\(false=true->aV [HV.osl 4 L.length (recs aC L)]=true)) .dead [.put 67 .dead,.kill 2 0,.put 2 (.optr [.osl 1 m B,.osl 4 L.length (recs aC L)])] rfl rfl rfl ⟨⟨⟨rfl,rfl⟩,trivial⟩,rfl,rO,bg _,fun h=>absurd h (by decide)⟩ rfl rfl ah gY ?_
 refine JA rfl ?_
 exact aY [1,2,3] _ rfl h
theorem Zy (p:Tn) (h1:p.1.length<=1000000000/\p.2.length<=1000000000):HT Try.prog 34 [.agg (fC p)] (fun r=>r=.agg (fC (og p))):=by
 refine HT.ofC rfl agv [2] rfl (aZ rfl) ?_
 unfold c34
 have htg:=yP [p] (by simp) (by simp [h1])
 have e0:recs fC [p]=[.sl p.1.length (HL.bools p.1),.sl p.2.length (recs aC p.2)]:=rfl
 rw [e0] at htg
 have hw:win [HV.sl p.1.length (HL.bools p.1),.sl p.2.length (recs aC p.2)] 0 (1*2)=[.sl p.1.length (HL.bools p.1),.sl p.2.length (recs aC p.2)]:=rfl
 have hst:stripL [HV.sl p.1.length (HL.bools p.1),.sl p.2.length (recs aC p.2)]=[.sl p.1.length (HL.bools p.1),.sl p.2.length (recs aC p.2)]:=by simp [stripL,HV.strip,HL.bools_strip,gQ]
 simp only [aA,Nat.reduceAdd,fC]
 refine zF ⟨?_⟩
 refine aF ay (zW (zA @hw @hst)) (htg) ?_
 rintro _ rfl
 cases hv:Dc [p] with
 | false =>
  have ho:og p=([],[]):=by unfold og;rw [hv];rfl
  refine zG ⟨?_⟩
  refine zF ⟨?_⟩
  refine aX 16 [1,4] [2] (⟨[(2,.pref 0 [] 0)],[(0,.optr [.osl 1 0 [],.osl 4 0 []])],1⟩:St) rfl rfl ?_
  refine bQ 0 [2] ⟨[(2,.pref 0 [] 0)],[(0,.optr [.sl 0 [],.sl 0 []])],1⟩ rfl rfl ?_
  refine ae ?_
  exact ⟨_,_,rfl,rfl,by rw [ho];rfl⟩
 | true =>
  obtain ⟨hp,hs1,hs2⟩:=abr hv
  have hnt:(1+(p.1.length:Int)).toNat=1+p.1.length:=by omega
  have hfl:=nJ p.1 p.1.length
  have hfi:∀i∈jA p.1 p.1.length,0<=i/\i<p.1.length:=fun i hi=>by
   obtain ⟨h1,h2⟩:=mem_finL.1 hi
   refine ⟨h1,?_⟩
   by_cases h:i.toNat<p.1.length
   ·omega
   ·rw [bH,qg (by omega)] at h2;cases h2
  have hB0:(List.replicate (1+p.1.length) false).set 0 true=true::List.replicate p.1.length false:=by rw [lT,xB];rfl
  have hrl:(List.replicate (1+p.1.length) false).length=1+p.1.length:=List.length_replicate
  refine zG ⟨?_⟩
  refine zL ⟨?_⟩
  refine Na @hnt ⟨?_⟩
  refine aX 192 [1,4] [1,2,3] (⟨[(1,.pref 0 [] 0),(2,.pref 1 [] 0),(3,.pref 2 [] 0)],[(0,.optr (fC p)),(1,.optr [.nils,.nils]),(2,.optr [.osl 1 (1+p.1.length) (HL.bools (List.replicate (1+p.1.length) false)),.osl 4 0 []])],3⟩:St) rfl rfl ?_
  unfold abd
  simp only [fC]
  refine aH ?_
  refine au ?_
  refine zQ ⟨?_⟩
  obtain ⟨B,hB⟩:∃B,true::List.replicate p.1.length false=B:=⟨_,rfl⟩
  have hBl:1+p.1.length=B.length:=by rw [<- hB];simp;omega
  rw [hB0,hB,hBl]
  refine aY [1,2,3] (⟨[(1,.pref 0 [] 0),(2,.pref 1 [] 0),(3,.pref 2 [] 0)],[(0,.optr (fC p)),(1,.optr [.nils,.nils]),(2,.optr [.osl 1 B.length (HL.bools B),.osl 4 0 []])],3⟩:St) rfl ?_
  obtain ⟨L,hL⟩:∃L,[jm 0 1]++p.2.map (mg 1)=L:=⟨_,rfl⟩
  have hLl:L.length<=7000:=by rw [<- hL];simp;omega
  have ho:og p=(B,L++(jA p.1 p.1.length).map fun i=>jm (i+1) 0):=by unfold og;rw [if_pos hv,<- hL,<- hB]
  refine Yh (k:=[]) p B.length (HL.bools B) hp L hL ?_
  clear hL htg
  have hfin:=zN p.1 (by omega)
  generalize hF:jA p.1 p.1.length=Fl at hfin hfl hfi ho
  unfold XB
  simp only [fC]
  refine zF ⟨?_⟩
  refine aF ay aK (hfin) ?_
  rintro _ rfl
  refine zG ⟨?_⟩
  refine zL ⟨?_⟩
  refine az 35 [2,3,28,29,30] ⟨[(2,.pref 0 [] 0),(3,.pref 1 [] 0),(28,.sl Fl.length (stripL (win (HL.ints Fl) 0 (Fl.length*1)))),(29,.int .i64 Fl.length),(30,.int .i64 0)],[(0,.optr [.nils,.nils]),(1,.optr [.osl 1 B.length (HL.bools B),.osl 4 L.length (recs aC L)])],2⟩ rfl ?_
  rw [show stripL (win (HL.ints Fl) 0 (Fl.length*1))=HL.ints Fl by rw [eG _ (by simp [HL.ints]),HL.ints_strip]]
  refine aI [2,3,28,29,30] (fun i:Nat=>i<=Fl.length)
   (fun i=>⟨[(2,.pref 0 [] 0),(3,.pref 1 [] 0),(28,.sl Fl.length (HL.ints Fl)),(29,.int .i64 Fl.length),(30,.int .i64 i)],[(0,.optr [.nils,.nils]),(1,.optr [.osl 1 B.length (HL.bools B),.osl 4 (L++(Fl.take i).map fun i=>jm (i+1) 0).length (recs aC (L++(Fl.take i).map fun i=>jm (i+1) 0))])],2⟩)
   (fun i=>Fl.length - i) 0 (by omega) (by simp;rfl) ?_
  intro i hi
  have hRl:(L++(Fl.take i).map fun i=>jm (i+1) 0).length<=10000:=by rw [bD,List.length_map,dS];omega
  by_cases hil:i<Fl.length
  ·have hst:L++(Fl.take (i+1)).map (fun i=>jm (i+1) 0)=(L++(Fl.take i).map fun i=>jm (i+1) 0)++[jm (Fl.getD i 0+1) 0]:=by rw [SQ hil,kQ]
   generalize hQ:(L++(Fl.take i).map fun i=>jm (i+1) 0)=Q at hst hRl ⊢
   have hj:=BA (Fl.getD i 0+1) 0
   have hib:=hfi (Fl.getD i 0) (by rw [bH,bM hil];exact gy hil)
   refine zF ⟨?_⟩
   refine iW [5] [] ah ah (fun _ args r=>r=jmD args) (by simp [ax,HV.deep]) (by simp) ?_ (by rintro _ _ _ rfl fr;exact SA)
   refine zF ⟨?_⟩
   refine bI ay aK hj ⟨_,rfl,rfl⟩ ?_
   rintro _ rfl -
   simp only [jmD,jm,aC]
   refine zG ⟨?_⟩
   refine zF ⟨?_⟩
   refine aP [2,3,28,29,30] (i+1) hil (by omega) ?_
   simp only [jm] at hst
   rw [hst]
   simp only [bD,jQ]
   rfl
  ·obtain rfl:i=Fl.length:=by omega
   rw [fK] at hRl ⊢
   have hQ:=ho
   generalize L++Fl.map (fun i=>jm (i+1) 0)=Q at hQ hRl ⊢
   refine aH ?_
   refine au ?_
   refine zQ ⟨?_⟩
   refine aH ?_
   refine bu (by rfl) ?_
   refine iY (by rfl) ?_
   refine az 1 [2,3] ⟨[(2,.pref 0 [] 0),(3,.ptr (stripL [.osl 1 B.length (HL.bools B),.osl 4 Q.length (recs aC Q)]) 0)],[(0,.optr [.nils,.nils])],1⟩ rfl ?_
   rw [fD]
   refine zF ⟨?_⟩
   refine ae ?_
   exact ⟨_,_,rfl,rfl,by rw [hQ];rfl⟩
theorem aaF (l:List Int) (hl:l.length<=9223372036854775807) (hr:∀k,k<l.length -> -9223372036854775808<=l.getD k 0/\l.getD k 0<=9223372036854775807):HT Try.prog 11 [I l] (fun r=>∃fin al,r=.agg (dE fin al)/\1<=fin.length/\fin.length<=5/\al.length<=9/\okF fin al=true):=by
 refine HT.ofC rfl af5 [2] rfl (aZ rfl) ?_
 unfold c11
 simp only [I,aA,Nat.reduceAdd]
 refine zF ⟨?_⟩
 refine aF ay aK (BQ l 0 5 (by omega) (by omega) (by omega) hl hr) ?_
 rintro _ ⟨n,rfl,hn⟩
 refine zG ⟨?_⟩
 refine zF ⟨?_⟩
 refine aX 96 [1,4] [0,2,3,4,5] (⟨[(0,.sl l.length (HL.ints l)),(2,.pref 0 [] 0),(3,.int .i64 (1+(n:Int))),(4,.pref 1 [] 0),(5,.int .i64 0)],[(0,.optr [.nils,.nils]),(1,.optr [.osl 1 0 [],.osl 4 0 []])],2⟩:St) rfl rfl ?_
 refine aI [0,2,3,4,5] (fun fb:List Bool=>fb.length<=n+1)
  (fun fb=>⟨[(0,.sl l.length (HL.ints l)),(2,.pref 0 [] 0),(3,.int .i64 (1+(n:Int))),(4,.pref 1 [] 0),(5,.int .i64 fb.length)],[(0,.optr [.nils,.nils]),(1,.optr [.osl 1 fb.length (HL.bools fb),.osl 4 0 []])],2⟩) (fun fb=>n+1 - fb.length) [] (by simp) rfl ?_
 intro fb hfb
 by_cases hk:fb.length<n+1
 ·have hat:=BQ l (1+fb.length) 3 (by omega) (by omega) (by omega) hl hr
  rw [show ((1+fb.length:Nat):Int)=1+(fb.length:Int) by omega] at hat
  have hsn:∀b:Bool,(fb++[b]).length=fb.length+1:=by simp
  refine zF ⟨?_⟩
  refine iW [] [] ah ah (fun _ _ r=>∃y:Nat,r=.int .i64 y/\y<3) (by simp) (by simp) ?_ (by rintro _ _ _ ⟨y,rfl,-⟩ fr;exact kW)
  refine zF ⟨?_⟩
  refine bI ay aK hat ⟨.int .i64 (0:Nat),⟨0,rfl,by omega⟩,rfl⟩ ?_
  rintro _ ⟨x,rfl,hx3⟩ -
  refine zG ⟨?_⟩
  by_cases hx0:x=0
  ·subst hx0
   refine zF ⟨?_⟩
   exact aP [0,2,3,4,5] (fb++[true]) (by rw [hsn];omega) (by rw [hsn];omega) (by rw [hsn];rfl)
  ·refine zF ⟨?_⟩
   exact aP [0,2,3,4,5] (fb++[false]) (by rw [hsn];omega) (by rw [hsn];omega) (by rw [hsn];rfl)
 ·have hfn:fb.length=n+1:=by omega
  rw [hfn]
  refine zF ⟨?_⟩
  refine aF ay aK (BQ l 6 10 (by omega) (by omega) (by omega) hl hr) ?_
  rintro _ ⟨m,rfl,hm⟩
  refine zG ⟨?_⟩
  refine zF ⟨?_⟩
  refine aI [0,2,3,4,6,7] (fun al:List A=>al.length<=m/\∀a∈al,okA (n+1) a=true)
   (fun al=>⟨[(0,.sl l.length (HL.ints l)),(2,.pref 0 [] 0),(3,.int .i64 (1+(n:Int))),(4,.pref 1 [] 0),(6,.int .i64 m),(7,.int .i64 al.length)],[(0,.optr [.nils,.nils]),(1,.optr [.osl 1 (n+1) (HL.bools fb),.osl 4 al.length (recs aC al)])],2⟩) (fun al=>m - al.length) [] ⟨by simp,by simp⟩ rfl ?_
  rintro al ⟨hal,hok⟩
  by_cases hk2:al.length<m
  ·have hat1:=BQ l (7+2*al.length) 1048576 (by omega) (by omega) (by omega) hl hr
   have hat2:=BQ l (8+2*al.length) 1048576 (by omega) (by omega) (by omega) hl hr
   rw [show ((7+2*al.length:Nat):Int)=7+2*(al.length:Int) by omega] at hat1
   rw [show ((8+2*al.length:Nat):Int)=8+2*(al.length:Int) by omega] at hat2
   have hsn:∀x:A,(al++[x]).length=al.length+1:=by simp
   refine zF ⟨?_⟩
   refine aF ay aK (hat1) ?_
   rintro _ ⟨x,rfl,hx⟩
   refine zG ⟨?_⟩
   refine zF ⟨?_⟩
   refine aF ay aK (hat2) ?_
   rintro _ ⟨y,rfl,hy⟩
   refine zG ⟨?_⟩
   have hsx:=Ic (x / 5) (by omega)
   have hsy:=Ic (y / 5) (by omega)
   have q1:(x:Int).tdiv 5=((x / 5:Nat):Int):=by rw [GZ (by omega)];omega
   have q2:(y:Int).tdiv 5=((y / 5:Nat):Int):=by rw [GZ (by omega)];omega
   refine zF ⟨?_⟩
   refine iW [3,8,9] [] ah ah (fun _ _ r=>∃y:Int,r=.int .i64 y /\ -1<=y/\y<=2) (by simp [ax,HV.deep]) (by simp) ?_ (by rintro _ _ _ ⟨y,rfl,-⟩ fr;exact kW)
   refine eH (zA @q1 @q2) ⟨?_⟩
   refine bI ay aK hsx ⟨.int .i64 0,⟨0,rfl,by omega,by omega⟩,rfl⟩ ?_
   rintro _ ⟨a1,rfl,ha1,ha2⟩ -
   refine zG ⟨?_⟩
   refine eH (zA @q1 @q2) ⟨?_⟩
   refine bI ay aK hsy ⟨.int .i64 0,⟨0,rfl,by omega,by omega⟩,rfl⟩ ?_
   rintro _ ⟨b1,rfl,hb1,hb2⟩ -
   refine zG ⟨?_⟩
   refine zF ⟨?_⟩
   exact aP [0,2,3,4,6,7] (al++[⟨(x:Int).tmod (1+(n:Int)),a1,b1,(y:Int).tmod (1+(n:Int))⟩]) ⟨by rw [hsn];omega,fun a ha=>by
    rcases zl003.1 ha with ha|ha
    ·exact hok a ha
    ·simp only [zl009] at ha
     subst ha
     have t1:=Int.tmod_nonneg (1+(n:Int)) (show (0:Int)<=x by omega)
     have t2:=Int.tmod_nonneg (1+(n:Int)) (show (0:Int)<=y by omega)
     have t3:=Int.tmod_lt_of_pos (x:Int) (show (0:Int)<1+n by omega)
     have t4:=Int.tmod_lt_of_pos (y:Int) (show (0:Int)<1+n by omega)
     exact okA_iff.2 ⟨t1,by simp only;omega,t2,by simp only;omega,ha1,by simp only;omega,hb1,by simp only;omega⟩⟩ (by rw [hsn];omega) (by rw [hsn];rfl)
  ·obtain rfl:al.length=m:=by omega
   refine az 1 [2,4,6,7] ⟨[(2,.pref 0 [] 0),(4,.ptr (stripL [.osl 1 (n+1) (HL.bools fb),.osl 4 al.length (recs aC al)]) 0),(6,.int .i64 al.length),(7,.int .i64 al.length)],[(0,.optr [.nils,.nils])],1⟩ rfl ?_
   rw [show stripL [.osl 1 (n+1) (HL.bools fb),.osl 4 al.length (recs aC al)]=[.sl (n+1) (HL.bools fb),.sl al.length (recs aC al)] by simp [stripL,HV.strip,HL.bools_strip,gQ]]
   refine zF ⟨?_⟩
   refine ae ?_
   exact ⟨_,_,rfl,rfl,fb,al,by rw [dE,fB,hfn];rfl,by omega,by omega,by omega,by
    simp only [okF,bC,decide_eq_true_eq,zl021]
    rw [hfn]
    exact ⟨⟨by omega,by omega,by omega⟩,hok⟩⟩
theorem ac8 {al:List A} {p q:A->Int} {n:Nat} {L0:List Int} {S:Nat->Prop} (hp:∀a∈al,0<=p a/\p a<n) (hq:∀a∈al,0<=q a) (hS:∀i,S i <-> ∃j∈L0,j.toNat=i) {i:Nat}:Rn (fun i=>(jI p q n al).getD i []) L0 i <-> Rc al p q S i:=by
 constructor
 ·intro h
  induction h with
  | on hj=>exact .on ((hS _).2 ⟨_,hj,rfl⟩)
  | @step i j h1 hj ih =>
   by_cases hi:i<n
   ·obtain ⟨a,ha,h2,rfl⟩:=(DX hi).1 hj
    exact .step ha (by rw [h2];simpa using ih)
   ·have:(jI p q n al).getD i []=[]:=by simp [jI,hi]
    rw [this] at hj;cases hj
 ·intro h
  induction h with
  | on hs=>obtain ⟨j,hj,rfl⟩:=(hS _).1 hs;exact .on hj
  | @step a ha h1 ih =>
   have h2:=hp a ha
   refine .step ih ((DX (by omega)).2 ⟨a,ha,by omega,rfl⟩)
theorem BF (l:List Int) (m:Nat) (hl:l.length<=9223372036854775807) (hm:m<=1000) (hr:∀k,k<l.length -> -9223372036854775808<=l.getD k 0/\l.getD k 0<=9223372036854775807):HT Try.prog 14 [I l,.int .i64 m] (fun r=>∃u:List Int,r=.osl 1 u.length (HL.ints u)/\u.length<=m):=by
 refine HT.of rfl afy (aZ rfl) ?_
 unfold c14
 simp only [I,aA,Nat.reduceAdd]
 refine zF ⟨?_⟩
 refine aI [0,1,5,6] (fun u:List Int=>u.length<=m/\u.length<=l.length)
  (fun u=>⟨[(0,.sl l.length (HL.ints l)),(1,.int .i64 m),(5,.ref 0 [] 1 0 u.length),(6,.int .i64 u.length)],[(0,.osl 1 u.length (HL.ints u))],1⟩)
  (fun u=>m - u.length) [] ⟨by simp,by simp⟩ rfl ?_
 rintro u ⟨h1,h2⟩
 by_cases c1:u.length<l.length
 ·by_cases c2:u.length<m
  ·have hh:=hr u.length c1
   have hsn:∀x:Int,(u++[x]).length=u.length+1:=by simp
   refine zF ⟨?_⟩
   refine aF ay aK (mO (l.getD u.length 0) 3 (by omega) (by omega) hh.1 hh.2) ?_
   rintro _ ⟨y,rfl,hy⟩
   refine zG ⟨?_⟩
   refine zF ⟨?_⟩
   exact aP [0,1,5,6] (u++[(y:Int)]) ⟨by rw [hsn];omega,by rw [hsn];omega⟩ (by rw [hsn];omega) (by rw [hsn];rfl)
  ·refine zF ⟨?_⟩
   refine ae ?_
   exact ⟨u,rfl,h1⟩
 ·refine zF ⟨?_⟩
  refine ae ?_
  exact ⟨u,rfl,h1⟩
theorem Sj (l:List Int) (hl:l.length<=9223372036854775807) (hr:∀k,k<l.length -> -9223372036854775808<=l.getD k 0/\l.getD k 0<=9223372036854775807):HT Try.prog 11 [I l] (fun r=>∃p:Tn,r=.agg (fC p)/\p.1.length<=5/\p.2.length<=9/\okF p.1 p.2=true) :=
 (aaF l hl hr).mono fun r ⟨fin,al,h1,_,h3,h4,h5⟩=>⟨(fin,al),h1,h3,h4,h5⟩
theorem PN (l:List Int):stripL (win (HL.ints l) 0 (l.length*1))=HL.ints l:=by rw [eG _ (by simp [HL.ints]),HL.ints_strip]
theorem CG (p:Tn):(HV.agg (fC p)).deep=[]:=by simp [fC,HV.deep,aO,bJ,bP]
end Go.Proofs.Ytlbdmpjnmfmnfaa
end
