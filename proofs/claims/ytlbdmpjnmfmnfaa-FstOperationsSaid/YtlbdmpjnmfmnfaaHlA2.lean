import Derived.Test.YtlbdmpjnmfmnfaaFvb
import Derived.Test.YtlbdmpjnmfmnfaaFsB
import Derived.Test.YtlbdmpjnmfmnfaaHl5
set_option linter.unusedSimpArgs false
set_option linter.unusedVariables false
set_option linter.unnecessarySimpa false
set_option maxHeartbeats 16000000
section
namespace Go.Proofs.Ytlbdmpjnmfmnfaa
open Go.RowKit Go.HL Go.FS
theorem YY (p q:Tn) (h1:p.1.length<=1000000000/\p.2.length<=1000000000) (h2:q.1.length<=1000000000/\q.2.length<=1000000000):HT Try.prog 38 [.agg (fC p),.agg (fC q)] (fun r=>r=.agg (fC (oJ p q))):=by
 refine HT.ofC rfl agq [4] rfl (aZ rfl) ?_
 unfold c38
 have v1:=lK p.1 p.2 (by omega) (by omega)
 have v2:=lK q.1 q.2 (by omega) (by omega)
 have m1:=fun (hp:okF p.1 p.2=true)=>aaC p.1 p.2 0 hp (by omega)
 have m2:=fun (R:List A) (hq:okF q.1 q.2=true) (hp:p.1.length<=2000) (hR:R.length<=1000000)=>QK R q.1 q.2 p.1.length hq (by omega) hR
 simp only [aA,Nat.reduceAdd]
 simp only [fC,dE,fB] at v1 v2 m1 m2 ⊢
 by_cases hv:Dc [p,q]=true
 ·obtain ⟨hp,hq,hs1,hs2⟩:=Vb hv
  rw [hp] at v1
  rw [hq] at v2
  replace m1:=m1 hp
  replace m2:=fun R=>m2 R hq (by omega)
  obtain ⟨L,hL⟩:∃L,p.2.map (mg 0)++q.2.map (mg p.1.length)=L:=⟨_,rfl⟩
  have hLl:L.length<=6000:=by rw [<- hL];simp;omega
  obtain ⟨B,hB⟩:∃B,List.replicate p.1.length false++q.1=B:=⟨_,rfl⟩
  have hBl:p.1.length+q.1.length=B.length:=by rw [<- hB];simp
  have hbb:HL.bools (List.replicate p.1.length false)++HL.bools q.1=HL.bools B:=by rw [<- hB];simp [HL.bools]
  have ho:oJ p q=(B,L++(jA p.1 p.1.length).map fun i=>jm i p.1.length):=by unfold oJ;rw [if_pos hv,<- hL,<- hB]
  have hnt:(p.1.length:Int).toNat=p.1.length:=by omega
  have hd1:∃v,v=SC [.nils,.agg [.sl p.1.length (HL.bools p.1),.sl p.2.length (recs aC p.2)],.int .i64 0]/\v.deep=[]:=⟨_,rfl,by rw [abb];exact SG _ _⟩
  have e1:=abb (b:=.sl p.1.length (HL.bools p.1)) (al:=p.2) (d:=0)
  have hRl:(p.2.map (mg 0)).length<=10000:=by simp;omega
  generalize p.2.map (mg 0)=R at e1 hL hRl
  replace m2:=m2 R (by omega)
  have e2:=TG (R:=R) (b:=.sl q.1.length (HL.bools q.1)) (al:=q.2) (d:=p.1.length)
  have hd2:∃v,v=SC [.sl R.length (recs aC R),.agg [.sl q.1.length (HL.bools q.1),.sl q.2.length (recs aC q.2)],.int .i64 p.1.length]/\v.deep=[]:=⟨_,rfl,by rw [e2];exact SG _ _⟩
  rw [hL] at e2
  have hRf:=RQ R
  refine zF ⟨?_⟩
  refine aF ay aK (v1) ?_
  rintro _ rfl
  refine zG ⟨?_⟩
  refine zF ⟨?_⟩
  refine aF ay aK (v2) ?_
  rintro _ rfl
  refine zG ⟨?_⟩
  refine eH @hnt ⟨?_⟩
  rw [hB,hBl]
  refine aX 608 [1,4] [2,3,4,5,6] ⟨[(2,.pref 0 [] 0),(3,.pref 1 [] 0),(4,.pref 2 [] 0),(5,.int .i64 p.1.length),(6,.pref 3 [] 0)],[(0,.optr [.sl p.1.length (HL.bools p.1),.sl p.2.length (recs aC p.2)]),(1,.optr [.sl q.1.length (HL.bools q.1),.sl q.2.length (recs aC q.2)]),(2,.optr [.nils,.nils]),(3,.optr [.osl 1 B.length (HL.bools B),.osl 4 0 []])],4⟩ rfl rfl ?_
  refine bG ah ah (fun _ args r=>r=SC args) ?_
  refine zF ⟨?_⟩
  refine bI ay aK m1 hd1 ?_
  rintro _ rfl -
  rw [e1]
  refine ⟨(by simp only [aJ,jb,HV.refFree,dm,HV.noRd,HL.ints_noRd,HL.bools_noRd,dR,mZ,lX,l9,kE,Bool.and_true,jf,Bool.and_self,mQ,beq_self_eq_true,List.cons_append,List.nil_append]),_,_,_,_,_,zT,(by decide),lH,?_⟩
  refine zF ⟨?_⟩
  refine bI ay (zW @hRf) m2 hd2 ?_
  rintro _ rfl -
  rw [e2]
  refine ⟨(by simp only [aJ,jb,HV.refFree,dm,HV.noRd,HL.ints_noRd,HL.bools_noRd,dR,mZ,lX,l9,kE,Bool.and_true,jf,Bool.and_self,mQ,beq_self_eq_true,List.cons_append,List.nil_append]),_,_,_,_,_,zT,(by decide),lH,?_⟩
  refine zF ⟨?_⟩
  have hflL:=nJ p.1
  refine aI [2,4,5,6,7] (fun i:Nat=>i<=p.1.length)
   (fun i=>⟨[(2,.pref 0 [] 0),(4,.pref 1 [] 0),(5,.int .i64 p.1.length),(6,.pref 2 [] 0),(7,.int .i64 i)],[(0,.optr [.sl p.1.length (HL.bools p.1),.sl p.2.length (recs aC p.2)]),(1,.optr [.nils,.nils]),(2,.optr [.osl 1 B.length (HL.bools B),.osl 4 (L++(jA p.1 i).map fun i=>jm i p.1.length).length (recs aC (L++(jA p.1 i).map fun i=>jm i p.1.length))])],3⟩)
   (fun i=>p.1.length - i) 0 (by omega) (by simp [jA];rfl) ?_
  intro i hi
  have hRl:(L++(jA p.1 i).map fun i=>jm i p.1.length).length<=10000:=by rw [bD,List.length_map];have:=hflL i;omega
  by_cases hil:i<p.1.length
  ·have hst:=vK p.1 i
   cases hb:p.1.getD i false with
   | false =>
    rw [if_neg (by rw [hb];simp)] at hst
    refine eH @hb ⟨?_⟩
    refine aP [2,4,5,6,7] (i+1) hil (by omega) ?_
    rw [hst]
    rfl
   | true =>
    rw [if_pos hb] at hst
    have hs2:(L++(jA p.1 (i+1)).map fun i=>jm i p.1.length)=(L++(jA p.1 i).map fun i=>jm i p.1.length)++[(fun i=>jm i p.1.length) (i:Int)]:=by rw [hst,qj,kQ];rfl
    generalize hQ:(L++(jA p.1 i).map fun i=>jm i p.1.length)=Q at hs2 hRl ⊢
    refine eH @hb ⟨?_⟩
    refine aP [2,4,5,6,7] (i+1) hil (by omega) ?_
    rw [hs2]
    simp only [bD,jQ]
    rfl
  ·obtain rfl:i=p.1.length:=by omega
   generalize L++(jA p.1 p.1.length).map (fun i=>jm i p.1.length)=Q at ho hRl ⊢
   refine aH ?_
   refine aH ?_
   refine au ?_
   refine zQ ⟨?_⟩
   refine bu (by rfl) ?_
   refine iY (by rfl) ?_
   refine az 2 [4,6] ⟨[(4,.pref 0 [] 0),(6,.ptr (stripL [.osl 1 B.length (HL.bools B),.osl 4 Q.length (recs aC Q)]) 0)],[(0,.optr [.nils,.nils])],1⟩ rfl ?_
   rw [fD]
   refine zF ⟨?_⟩
   refine ae ?_
   exact ⟨_,_,rfl,rfl,by rw [ho];rfl⟩
 ·have ho:oJ p q=([],[]):=by unfold oJ;rw [if_neg hv]
  clear m1 m2
  cases hp:okF p.1 p.2 with
  | false =>
   rw [hp] at v1
   refine zF ⟨?_⟩
   refine aF ay aK (v1) ?_
   rintro _ rfl
   refine zG ⟨?_⟩
   refine zF ⟨?_⟩
   refine aX 32 [1,4] [4] (⟨[(4,.pref 0 [] 0)],[(0,.optr [.osl 1 0 [],.osl 4 0 []])],1⟩:St) rfl rfl ?_
   refine bQ 0 [4] ⟨[(4,.pref 0 [] 0)],[(0,.optr [.sl 0 [],.sl 0 []])],1⟩ rfl rfl ?_
   refine ae ?_
   exact ⟨_,_,rfl,rfl,by rw [ho];rfl⟩
  | true =>
   rw [hp] at v1
   cases hq:okF q.1 q.2 with
   | false =>
    rw [hq] at v2
    refine zF ⟨?_⟩
    refine aF ay aK (v1) ?_
    rintro _ rfl
    refine zG ⟨?_⟩
    refine zF ⟨?_⟩
    refine aF ay aK (v2) ?_
    rintro _ rfl
    refine zG ⟨?_⟩
    refine zF ⟨?_⟩
    refine aX 32 [1,4] [4] (⟨[(4,.pref 0 [] 0)],[(0,.optr [.osl 1 0 [],.osl 4 0 []])],1⟩:St) rfl rfl ?_
    refine bQ 0 [4] ⟨[(4,.pref 0 [] 0)],[(0,.optr [.sl 0 [],.sl 0 []])],1⟩ rfl rfl ?_
    refine ae ?_
    exact ⟨_,_,rfl,rfl,by rw [ho];rfl⟩
   | true =>
    rw [hq] at v2
    obtain ⟨p1,p2,p3⟩:=bY hp
    obtain ⟨q1,q2,q3⟩:=bY hq
    rw [TZ hp hq,decide_eq_true_iff] at hv
    by_cases hs1:p.1.length+q.1.length<=2000
    ·have hs2:¬ p.2.length+q.2.length<=6000:=fun h=>hv ⟨hs1,h⟩
     refine zF ⟨?_⟩
     refine aF ay aK (v1) ?_
     rintro _ rfl
     refine zG ⟨?_⟩
     refine zF ⟨?_⟩
     refine aF ay aK (v2) ?_
     rintro _ rfl
     refine zG ⟨?_⟩
     refine zF ⟨?_⟩
     refine aX 32 [1,4] [4] (⟨[(4,.pref 0 [] 0)],[(0,.optr [.osl 1 0 [],.osl 4 0 []])],1⟩:St) rfl rfl ?_
     refine bQ 0 [4] ⟨[(4,.pref 0 [] 0)],[(0,.optr [.sl 0 [],.sl 0 []])],1⟩ rfl rfl ?_
     refine ae ?_
     exact ⟨_,_,rfl,rfl,by rw [ho];rfl⟩
    ·clear hv
     refine zF ⟨?_⟩
     refine aF ay aK (v1) ?_
     rintro _ rfl
     refine zG ⟨?_⟩
     refine zF ⟨?_⟩
     refine aF ay aK (v2) ?_
     rintro _ rfl
     refine zG ⟨?_⟩
     refine zF ⟨?_⟩
     refine aX 32 [1,4] [4] (⟨[(4,.pref 0 [] 0)],[(0,.optr [.osl 1 0 [],.osl 4 0 []])],1⟩:St) rfl rfl ?_
     refine bQ 0 [4] ⟨[(4,.pref 0 [] 0)],[(0,.optr [.sl 0 [],.sl 0 []])],1⟩ rfl rfl ?_
     refine ae ?_
     exact ⟨_,_,rfl,rfl,by rw [ho];rfl⟩
theorem WT {p:Tn} (hp:okF p.1 p.2=true):Dc [p]=decide (p.1.length<=2000/\p.2.length<=6000):=by
 simp only [Dc,xC,List.all_nil,Bool.and_true,ER,EX,dV,pY,List.sum_cons,List.sum_nil,Nat.add_zero,hp,Bool.and_self,jf]
theorem Xf (p:Tn) (h1:p.1.length<=1000000000/\p.2.length<=1000000000):HT Try.prog 39 [.agg (fC p)] (fun r=>r=.agg (fC (og p))):=by
 refine HT.ofC rfl afw [2] rfl (aZ rfl) ?_
 unfold c39
 have v1:=lK p.1 p.2 (by omega) (by omega)
 have m1:=fun (hp:okF p.1 p.2=true)=>Hl [jm 0 1] p.1 p.2 1 hp (by omega) (by simp)
 simp only [aA,Nat.reduceAdd]
 simp only [fC,dE,fB] at v1 m1 ⊢
 by_cases hv:Dc [p]=true
 ·obtain ⟨hp,hs1,hs2⟩:=abr hv
  rw [hp] at v1
  replace m1:=m1 hp
  obtain ⟨B,hB⟩:∃B,true::List.replicate p.1.length false=B:=⟨_,rfl⟩
  have hBl:1+p.1.length=B.length:=by rw [<- hB];simp;omega
  have hB0:(List.replicate (1+p.1.length) false).set 0 true=B:=by rw [<- hB,lT,xB];rfl
  have ho:og p=(B,([jm 0 1]++p.2.map (mg 1))++(jA p.1 p.1.length).map fun i=>jm (i+1) 0):=by unfold og;rw [if_pos hv,<- hB]
  have hLl:([jm 0 1]++p.2.map (mg 1)).length<=7000:=by simp;omega
  generalize [jm 0 1]++p.2.map (mg 1)=L at m1 ho hLl
  have hnt:(1+(p.1.length:Int)).toNat=1+p.1.length:=by omega
  have hrl:(List.replicate (1+p.1.length) false).length=1+p.1.length:=List.length_replicate
  have hRg:stripL (win (recs aC [jm 0 1]) 0 4)=recs aC [jm 0 1]:=RQ [jm 0 1]
  have hRh:recs aC [jm 0 1]=[.int .i64 0,.int .i64 (-1),.int .i64 (-1),.int .i64 1]:=rfl
  rw [hRh] at hRg m1
  refine zF ⟨?_⟩
  refine aF ay aK (v1) ?_
  rintro _ rfl
  refine zG ⟨?_⟩
  refine zL ⟨?_⟩
  refine eH @hnt ⟨?_⟩
  refine aF ay (zW @hRg) (m1) ?_
  rintro _ rfl
  refine ⟨(by simp only [aJ,jb,HV.refFree,dm,HV.noRd,HL.ints_noRd,HL.bools_noRd,dR,mZ,lX,l9,kE,Bool.and_true,jf,Bool.and_self,mQ,beq_self_eq_true,List.cons_append,List.nil_append]),_,_,_,_,_,zT,(by decide),lH,?_⟩
  refine zF ⟨?_⟩
  simp only [hB0]
  simp only [hBl]
  have hflL:=nJ p.1
  refine aI [1,2,3,4] (fun i:Nat=>i<=p.1.length)
   (fun i=>⟨[(1,.pref 0 [] 0),(2,.pref 1 [] 0),(3,.pref 2 [] 0),(4,.int .i64 i)],[(0,.optr [.sl p.1.length (HL.bools p.1),.sl p.2.length (recs aC p.2)]),(1,.optr [.nils,.nils]),(2,.optr [.osl 1 B.length (HL.bools B),.osl 4 (L++(jA p.1 i).map fun i=>jm (i+1) 0).length (recs aC (L++(jA p.1 i).map fun i=>jm (i+1) 0))])],3⟩)
   (fun i=>p.1.length - i) 0 (by omega) (by simp [jA];rfl) ?_
  intro i hi
  have hRl:(L++(jA p.1 i).map fun i=>jm (i+1) 0).length<=10000:=by rw [bD,List.length_map];have:=hflL i;omega
  by_cases hil:i<p.1.length
  ·have hst:=vK p.1 i
   cases hb:p.1.getD i false with
   | false =>
    rw [if_neg (by rw [hb];simp)] at hst
    refine eH @hb ⟨?_⟩
    refine aP [1,2,3,4] (i+1) hil (by omega) ?_
    rw [hst]
    rfl
   | true =>
    rw [if_pos hb] at hst
    have hs2:(L++(jA p.1 (i+1)).map fun i=>jm (i+1) 0)=(L++(jA p.1 i).map fun i=>jm (i+1) 0)++[(fun i=>jm (i+1) 0) (i:Int)]:=by rw [hst,qj,kQ];rfl
    generalize hQ:(L++(jA p.1 i).map fun i=>jm (i+1) 0)=Q at hs2 hRl ⊢
    refine eH @hb ⟨?_⟩
    refine aP [1,2,3,4] (i+1) hil (by omega) ?_
    rw [hs2]
    simp only [bD,jQ]
    rfl
  ·obtain rfl:i=p.1.length:=by omega
   generalize L++(jA p.1 p.1.length).map (fun i=>jm (i+1) 0)=Q at ho hRl ⊢
   refine aH ?_
   refine aH ?_
   refine au ?_
   refine zQ ⟨?_⟩
   refine bu (by rfl) ?_
   refine iY (by rfl) ?_
   refine az 2 [2,3] ⟨[(2,.pref 0 [] 0),(3,.ptr (stripL [.osl 1 B.length (HL.bools B),.osl 4 Q.length (recs aC Q)]) 0)],[(0,.optr [.nils,.nils])],1⟩ rfl ?_
   rw [fD]
   refine zF ⟨?_⟩
   refine ae ?_
   exact ⟨_,_,rfl,rfl,by rw [ho];rfl⟩
 ·have ho:og p=([],[]):=by unfold og;rw [if_neg hv]
  clear m1
  cases hp:okF p.1 p.2 with
  | false =>
   rw [hp] at v1
   refine zF ⟨?_⟩
   refine aF ay aK (v1) ?_
   rintro _ rfl
   refine zG ⟨?_⟩
   refine zF ⟨?_⟩
   refine aX 16 [1,4] [2] (⟨[(2,.pref 0 [] 0)],[(0,.optr [.osl 1 0 [],.osl 4 0 []])],1⟩:St) rfl rfl ?_
   refine bQ 0 [2] ⟨[(2,.pref 0 [] 0)],[(0,.optr [.sl 0 [],.sl 0 []])],1⟩ rfl rfl ?_
   refine ae ?_
   exact ⟨_,_,rfl,rfl,by rw [ho];rfl⟩
  | true =>
   rw [hp] at v1
   obtain ⟨p1,p2,p3⟩:=bY hp
   rw [WT hp,decide_eq_true_iff] at hv
   by_cases hs1:p.1.length<=2000
   ·have hs2:¬ p.2.length<=6000:=fun h=>hv ⟨hs1,h⟩
    refine zF ⟨?_⟩
    refine aF ay aK (v1) ?_
    rintro _ rfl
    refine zG ⟨?_⟩
    refine zF ⟨?_⟩
    refine aX 16 [1,4] [2] (⟨[(2,.pref 0 [] 0)],[(0,.optr [.osl 1 0 [],.osl 4 0 []])],1⟩:St) rfl rfl ?_
    refine bQ 0 [2] ⟨[(2,.pref 0 [] 0)],[(0,.optr [.sl 0 [],.sl 0 []])],1⟩ rfl rfl ?_
    refine ae ?_
    exact ⟨_,_,rfl,rfl,by rw [ho];rfl⟩
   ·clear hv
    refine zF ⟨?_⟩
    refine aF ay aK (v1) ?_
    rintro _ rfl
    refine zG ⟨?_⟩
    refine zF ⟨?_⟩
    refine aX 16 [1,4] [2] (⟨[(2,.pref 0 [] 0)],[(0,.optr [.osl 1 0 [],.osl 4 0 []])],1⟩:St) rfl rfl ?_
    refine bQ 0 [2] ⟨[(2,.pref 0 [] 0)],[(0,.optr [.sl 0 [],.sl 0 []])],1⟩ rfl rfl ?_
    refine ae ?_
    exact ⟨_,_,rfl,rfl,by rw [ho];rfl⟩
end Go.Proofs.Ytlbdmpjnmfmnfaa
end
section
namespace Go.HL
open Go.RowKit
section
variable {P:Program}
theorem XY {s:St} {i t:Nat} {sz bytes n m id:Nat} {x y:HX} {cs ws:List HV} {v:HV} {sd:Prop} {K:St->Prop} (hx:ev s.sl x=.ref id [] sz 0 n) (hst:ax id s.st=.osl sz n cs) (hcf:aV cs=true) (hy:ev s.sl y=v)
  (hn:dN (fun j=>ax j s.st) true sz v=(m,ws,[],sd)) (hs:sd) (hwf:aV ws=true) (hm0:0<m) (hb:(n+m)*bytes<=140737488355328) (hm:n+m<=maxLen)
  (hK1:K ⟨tZ t (.ref id [] sz 0 (n+m)) s.sl,tZ id (.osl sz (n+m) (cs++ws)) s.st,s.nx⟩)
  (hK2:K ⟨tZ t (.ref (s.nx+stride*i) [] sz 0 (n+m)) s.sl,tZ (s.nx+stride*i) (.osl sz (n+m) (cs++ws)) s.st,s.nx⟩):rZ P s i (some t) (.app true sz bytes x y) K:=by
 intro E ro a w next Q hd ho hr hnext
 have hdst:ro.dst=some t:=hd
 have hop:aT P ro=.app true sz bytes x y:=by
  unfold bf at ho
  by_cases h:(ro.dst.all fun d=>E.ok d)=true
  ·simpa [h] using ho
  ·simp [h] at ho
 have hok:E.ok t=true:=by
  unfold bf at ho
  by_cases h:(ro.dst.all fun d=>E.ok d)=true
  ·simpa [hdst] using h
  ·simp [h] at ho
 obtain ⟨c,s0,v0,ty,tx,e,e',inf,z,q1,q2,q3,q4,q5,q6,q7,q8,q9,rfl,rfl,rfl,rfl⟩:=WG hop
 obtain ⟨loc,fp,hr⟩:=hr
 have hxv:=hr.val s0
 have hyv:=hr.val v0
 rw [<- jl] at hxv hyv
 rw [hx] at hxv
 rw [hy] at hyv
 obtain ⟨r,w',hrun,hA⟩:=YZ (P:=P) (ty:=ro.type) hr (bg _) q5 q6 q7 q8 q9 hxv hst hcf hyv hn hs hwf hm0 hb hm
 have hdo:(execOp a.eval ro).run P w=.ok (.value r) w':=by
  obtain ⟨dst,op,type,pos,after,guard⟩:=ro
  simp only at q1
  subst q1
  obtain ⟨callee,args,argTypes⟩:=c
  simp only at q2 q3 q4
  subst q2
  obtain ⟨args⟩:=args
  obtain ⟨argTypes⟩:=argTypes
  simp only at q3 q4
  subst q3 q4
  have e1:(Builtin.append_ { toList:=[ty,tx] } type #[a.eval s0,a.eval v0]).run P w=.ok r w':=hrun
  simp [execOp,resolve,invoke,builtin,e1]
 unfold Oper.wp
 rw [hdo]
 show next (a.put ro.dst r) w'
 rw [hdst]
 rcases hA with hA|hA
 ·have h3:=SRel.done (s:=s) (d:=some t) hA (fun t' ht=>by cases ht;exact hok)
  have h4:=h3.same (s':=⟨tZ t (.ref id [] inf.size 0 (n+m)) s.sl,tZ id (.osl inf.size (n+m) (cs++ws)) s.st,s.nx⟩) (by first|rfl|(funext j;simp only [St.S,fA];rfl)) (by first|rfl|(funext j;simp only [St.M,fA];rfl))
  exact hnext ⟨tZ t (.ref id [] inf.size 0 (n+m)) s.sl,tZ id (.osl inf.size (n+m) (cs++ws)) s.st,s.nx⟩ _ _ rfl (h4.up (by unfold stride;omega)) hK1
 ·have h3:=SRel.done (s:=s) (d:=some t) hA (fun t' ht=>by cases ht;exact hok)
  have h4:=h3.same (s':=⟨tZ t (.ref (s.nx+stride*i) [] inf.size 0 (n+m)) s.sl,tZ (s.nx+stride*i) (.osl inf.size (n+m) (cs++ws)) s.st,s.nx⟩) (by first|rfl|(funext j;simp only [St.S,fA];rfl)) (by first|rfl|(funext j;simp only [St.M,fA];rfl))
  exact hnext ⟨tZ t (.ref (s.nx+stride*i) [] inf.size 0 (n+m)) s.sl,tZ (s.nx+stride*i) (.osl inf.size (n+m) (cs++ws)) s.st,s.nx⟩ _ _ rfl (h4.up (by unfold stride;omega)) hK2
end
section
variable {P:Program} {all r:List af} {i:Nat} {k:List HI} {rs:List Nat} {K:HV->Prop} {sl sl1 sl' st:List (Nat×HV)} {nx:Nat} {x y:HX} {t id sz bytes n m fr q:Nat} {cs ws cs':List HV} {v:HV} {sd:Prop}
theorem acO [ok:Ok (HS P) k] (hf:nx+stride*i=fr) (hx:ev sl x=.ref id [] sz 0 n) (hst:ax id st=.osl sz n cs) (hcf:aV cs=true) (hy:ev sl y=v)
  (hn:dN (fun j=>ax j st) true sz v=(m,ws,[],sd)) (hs:sd) (hwf:aV ws=true) (hm0:0<m) (hb:(n+m)*bytes<=140737488355328) (hm:n+m<=maxLen) (hq:n+m=q) (hcs:cs++ws=cs')
  (h1:G P (HS P) all r (i+1) k rs K ((t,.ref id [] sz 0 q)::sl) ((id,.osl sz q cs')::st) nx)
  (h2:G P (HS P) all r (i+1) k rs K ((t,.ref fr [] sz 0 q)::sl) ((fr,.osl sz q cs')::st) nx):G P (HS P) all (⟨some t,.app true sz bytes x y,none⟩::r) i k rs K sl st nx:=by
 subst hf hq hcs
 refine rE (XY (s:=⟨sl,st,nx⟩) hx hst hcf hy hn hs hwf hm0 hb hm ?_ ?_)
 ·refine kL ok.mono ok.plain ?_ h1
  refine ⟨?_,?_,rfl⟩<;>funext j<;>simp only [St.S,St.M,ax,fA]
 ·refine kL ok.mono ok.plain ?_ h2
  refine ⟨?_,?_,rfl⟩<;>funext j<;>simp only [St.S,St.M,ax,fA]
end
end Go.HL
end
