import Derived.Test.YtlbdmpjnmfmnfaaFt7
import Derived.Test.YtlbdmpjnmfmnfaaFsZ
import Derived.Test.YtlbdmpjnmfmnfaaFs2
import Derived.Test.YtlbdmpjnmfmnfaaHlFi
import Derived.Test.YtlbdmpjnmfmnfaaHlRo
import Derived.Test.YtlbdmpjnmfmnfaaFsB
import Derived.Test.YtlbdmpjnmfmnfaaFv9
import Derived.Test.YtlbdmpjnmfmnfaaFt8
set_option linter.unusedSimpArgs false
set_option linter.unusedVariables false
set_option linter.unnecessarySimpa false
set_option maxHeartbeats 16000000
section
namespace Go.Proofs.Ytlbdmpjnmfmnfaa
open Go.RowKit Go.HL Go.FS
theorem Q8 (fin:List Bool) (al:List A) (hf:fin.length<=1000000000) (ha:al.length<=1000000000):HT Try.prog 40 [.agg (dE fin al)] (fun r=>r=.agg (dE (Dx fin al).1 (Dx fin al).2)):=by
 refine HT.ofC rfl afn [2] rfl (aZ rfl) ?_
 unfold c40
 have v1:=lK fin al (by omega) (by omega)
 simp only [aA,Nat.reduceAdd]
 simp only [dE,fB] at v1 ⊢
 refine zF ⟨?_⟩
 refine aF ay aK (v1) ?_
 rintro _ rfl
 cases hv:okF fin al with
 | false =>
  have ho:Dx fin al=([],[]):=by unfold Dx;rw [hv];rfl
  refine zG ⟨?_⟩
  refine zF ⟨?_⟩
  refine aX 16 [1,4] [2] (⟨[(2,.pref 0 [] 0)],[(0,.optr [.osl 1 0 [],.osl 4 0 []])],1⟩:St) rfl rfl ?_
  refine bQ 0 [2] ⟨[(2,.pref 0 [] 0)],[(0,.optr [.sl 0 [],.sl 0 []])],1⟩ rfl rfl ?_
  refine ae ?_
  exact ⟨_,_,rfl,rfl,by rw [ho];rfl⟩
 | true =>
  obtain ⟨h1,h2,h3⟩:=bY hv
  refine zG ⟨?_⟩
  refine zF ⟨?_⟩
  have ht:Dx fin al=(fin,al.map wW):=if_pos hv
  refine aX 160 [1,4] [1,2,3,4] (⟨[(1,.pref 0 [] 0),(2,.pref 1 [] 0),(3,.pref 2 [] 0),(4,.int .i64 0)],[(0,.optr [.sl fin.length (HL.bools fin),.sl al.length (recs aC al)]),(1,.optr [.nils,.nils]),(2,.optr [.osl 1 fin.length (HL.bools fin),.osl 4 0 []])],3⟩:St) rfl rfl ?_
  refine aI [1,2,3,4] (fun k:Nat=>k<=al.length)
   (fun k=>⟨[(1,.pref 0 [] 0),(2,.pref 1 [] 0),(3,.pref 2 [] 0),(4,.int .i64 k)],[(0,.optr [.sl fin.length (HL.bools fin),.sl al.length (recs aC al)]),(1,.optr [.nils,.nils]),(2,.optr [.osl 1 fin.length (HL.bools fin),.osl 4 k (recs aC ((al.take k).map wW))])],3⟩)
   (fun k=>al.length - k) 0 (by omega) rfl ?_
  intro k hk
  by_cases hkl:k<al.length
  ·have hst:(al.take (k+1)).map wW=(al.take k).map wW++[wW (al.getD k default)]:=by rw [bK hkl,qj];rfl
   have hml:((al.take k).map wW).length=k:=by simp;omega
   generalize (al.take k).map wW=ml at hst hml
   refine zF ⟨?_⟩
   exact aP [1,2,3,4] (k+1) hkl (by omega) (by simp only [hst,wW];rfl)
  ·obtain rfl:k=al.length:=by omega
   rw [fK]
   refine aH ?_
   refine aH ?_
   refine au ?_
   refine zQ ⟨?_⟩
   refine bu (by rfl) ?_
   refine iY (by rfl) ?_
   refine az 2 [2,3] ⟨[(2,.pref 0 [] 0),(3,.ptr (stripL [.osl 1 fin.length (HL.bools fin),.osl 4 al.length (recs aC (al.map wW))]) 0)],[(0,.optr [.nils,.nils])],1⟩ rfl ?_
   rw [fD]
   refine zF ⟨?_⟩
   refine ae ?_
   exact ⟨_,_,rfl,rfl,by rw [ht];simp only [dE,fB,List.length_map];rfl⟩
theorem YL {u:List Int} {k:Nat} (h:k<u.length):(u.take (k+1)).any pO=((u.take k).any pO || pO (u.getD k 0)):=by
 rw [vV,List.any_append,bH,bM h];simp
theorem NC {u:List Int} {k:Nat} (h:k<u.length) (hb:pO (u.getD k 0)=true):u.any pO=true:=by
 rw [List.any_eq_true]
 refine ⟨u[k],gy h,?_⟩
 rw [bH,bM h] at hb
 exact hb
theorem JE (u:List Int) (hu:u.length<=1000000000):HT Try.prog 89 [.sl u.length (HL.ints u)] (fun r=>r=.bool (!u.any pO&&decide (u.length<=1024))):=by
 refine HT.of rfl afC (aZ rfl) ?_
 unfold c89
 simp only [aA,Nat.reduceAdd]
 refine zF ⟨?_⟩
 refine aI [0,3] (fun k:Nat=>k<=u.length/\(u.take k).any pO=false) (fun k=>⟨[(0,.sl u.length (HL.ints u)),(3,.int .i64 k)],[],0⟩) (fun k=>u.length - k) 0 ⟨by omega,by simp⟩ rfl ?_
 rintro k ⟨hk,hno⟩
 by_cases hkl:k<u.length
 ·by_cases b1:u.getD k 0<0
  ·have hb:=NC hkl (by simp only [pO,Ap,decide_eq_false_iff_not];omega)
   refine zF ⟨?_⟩
   refine ae ?_
   rw [hb];rfl
  ·by_cases b2:63<u.getD k 0
   ·have hb:=NC hkl (by simp only [pO,Ap,decide_eq_false_iff_not];omega)
    refine zF ⟨?_⟩
    refine ae ?_
    rw [hb];rfl
   ·have hb:pO (u.getD k 0)=false:=by simp only [pO,Bool.not_eq_false',decide_eq_true_eq];omega
    refine zF ⟨?_⟩
    exact aP [0,3] (k+1) ⟨hkl,by rw [YL hkl,hno,hb];rfl⟩ (by omega) rfl
 ·have e0:u.take k=u:=kD (by omega)
  rw [e0] at hno
  by_cases hl:u.length<=1024
  ·refine zF ⟨?_⟩
   refine ae ?_
   simp [bT,hno,hl]
  ·refine zF ⟨?_⟩
   refine ae ?_
   simp [bT,hno,hl]
theorem aaf (N:Nat):List.replicate N false++[true]=(List.replicate (N+1) false).set N true:=by
 induction N with
 | zero=>rfl
 | succ N ih=>rw [xB,List.cons_append,ih,xB (n:=N+1)];rfl
theorem XL (k:Nat):List.replicate k false++[false]=List.replicate (k+1) false:=by rw [TV]
theorem Pv (u v:List Int) (hu:u.length<=1000000000) (hv:v.length<=1000000000):HT Try.prog 45 [.sl u.length (HL.ints u),.sl v.length (HL.ints v)] (fun r=>r=.agg (EQ (FC u v).1 (FC u v).2)):=by
 refine HT.ofC rfl afo [4] rfl (aZ rfl) ?_
 unfold c45
 simp only [aA,Nat.reduceAdd]
 have a1:=JE u hu
 have a2:=JE v hv
 cases h1:(!u.any pO&&decide (u.length<=1024)) with
 | false =>
  have ho:FC u v=([],[]):=by
   have:YD u v=true:=by
    unfold YD ES
    by_cases h:u.any pO=true
    ·rw [h];rfl
    ·rw [show u.any pO=false by simpa using h] at h1
     have h2:¬ u.length<=1024:=by simpa using h1
     rw [decide_eq_true (show 1024<max u.length v.length by omega)];simp
   unfold FC;rw [if_pos this]
  rw [h1] at a1
  refine zF ⟨?_⟩
  refine aF ay aK (a1) ?_
  rintro _ rfl
  refine zG ⟨?_⟩
  refine zF ⟨?_⟩
  refine aX 0 [1,4] [4] (⟨[(4,.pref 0 [] 0)],[(0,.optr [.osl 1 0 [],.osl 4 0 []])],1⟩:St) rfl rfl ?_
  refine ae ?_
  exact ⟨_,_,rfl,rfl,by rw [ho];rfl⟩
 | true =>
  rw [h1] at a1
  cases h2:(!v.any pO&&decide (v.length<=1024)) with
  | false =>
   have ho:FC u v=([],[]):=by
    have:YD u v=true:=by
     unfold YD ES
     by_cases h:v.any pO=true
     ·rw [h];simp
     ·rw [show v.any pO=false by simpa using h] at h2
      have h3:¬ v.length<=1024:=by simpa using h2
      rw [decide_eq_true (show 1024<max u.length v.length by omega)];simp
    unfold FC;rw [if_pos this]
   rw [h2] at a2
   refine zF ⟨?_⟩
   refine aF ay aK (a1) ?_
   rintro _ rfl
   refine zG ⟨?_⟩
   refine zF ⟨?_⟩
   refine aF ay aK (a2) ?_
   rintro _ rfl
   refine zG ⟨?_⟩
   refine zF ⟨?_⟩
   refine aX 0 [1,4] [4] (⟨[(4,.pref 0 [] 0)],[(0,.optr [.osl 1 0 [],.osl 4 0 []])],1⟩:St) rfl rfl ?_
   refine ae ?_
   exact ⟨_,_,rfl,rfl,by rw [ho];rfl⟩
  | true =>
   rw [h2] at a2
   simp only [bC,Ap,decide_eq_true_eq] at h1 h2
   have ho:FC u v=((List.replicate (ES u v+1) false).set (ES u v) true,Y4 u v (ES u v)):=by
    have:YD u v=false:=by
     unfold YD ES
     rw [h1.1,h2.1,decide_eq_false (by omega)];rfl
    unfold FC;rw [this];rfl
   have hN:ES u v=max u.length v.length:=rfl
   generalize ES u v=N at hN ho
   refine zF ⟨?_⟩
   refine aF ay aK (a1) ?_
   rintro _ rfl
   refine zG ⟨?_⟩
   refine zF ⟨?_⟩
   refine aF ay aK (a2) ?_
   rintro _ rfl
   refine zG ⟨?_⟩
   refine zF ⟨?_⟩
   refine aX 160 [1,4] [0,1,4,5,6] (⟨[(0,.sl u.length (HL.ints u)),(1,.sl v.length (HL.ints v)),(4,.pref 0 [] 0),(5,.pref 1 [] 0),(6,.int .i64 0)],[(0,.optr [.nils,.nils]),(1,.optr [.osl 1 0 [],.osl 4 0 []])],2⟩:St) rfl rfl ?_
   refine aI [0,1,4,5,6] (fun k:Nat=>k<=N)
    (fun k=>⟨[(0,.sl u.length (HL.ints u)),(1,.sl v.length (HL.ints v)),(4,.pref 0 [] 0),(5,.pref 1 [] 0),(6,.int .i64 k)],[(0,.optr [.nils,.nils]),(1,.optr [.osl 1 k (HL.bools (List.replicate k false)),.osl 4 k (recs aC (Y4 u v k))])],2⟩)
    (fun k=>N - k) 0 (by omega) rfl ?_
   intro k hk
   have hst:=Oj (u:=u) (v:=v) (k:=k)
   have hwl:=CY (u:=u) (v:=v) (k:=k)
   have hrl:(List.replicate k false).length=k:=List.length_replicate
   by_cases hkN:k<N
   ·have hrs:=XL k
    by_cases c1:k<u.length
    ·have g1:u.getD k (-1)=u.getD k 0:=by simp [c1]
     by_cases c2:k<v.length
     ·have g2:v.getD k (-1)=v.getD k 0:=by simp [c2]
      rw [g1,g2] at hst
      refine zF ⟨?_⟩
      exact aP [0,1,4,5,6] (k+1) hkN (by omega) (by simp only [hst,<- hrs];rfl)
     ·have g2:v.getD k (-1) = -1:=by simp [c2]
      rw [g1,g2] at hst
      refine zF ⟨?_⟩
      exact aP [0,1,4,5,6] (k+1) hkN (by omega) (by simp only [hst,<- hrs];rfl)
    ·have g1:u.getD k (-1) = -1:=by simp [c1]
     by_cases c2:k<v.length
     ·have g2:v.getD k (-1)=v.getD k 0:=by simp [c2]
      rw [g1,g2] at hst
      refine zF ⟨?_⟩
      exact aP [0,1,4,5,6] (k+1) hkN (by omega) (by simp only [hst,<- hrs];rfl)
     ·omega
   ·obtain rfl:k=N:=by omega
    have hfe:=aaf k
    refine aH ?_
    refine aH ?_
    refine au ?_
    refine zQ ⟨?_⟩
    refine bu (by rfl) ?_
    refine iY (by rfl) ?_
    refine aH ?_
    refine au ?_
    refine zQ ⟨?_⟩
    rw [hfe]
    refine aH ?_
    refine au ?_
    refine QR aQ (by rfl) (by rfl) zT (by decide) lH ?_
    refine zF ⟨?_⟩
    refine ae ?_
    exact ⟨_,_,rfl,rfl,by rw [ho];simp only [EQ,CY,List.length_set,List.length_replicate];rfl⟩
theorem Hl (R:List A) (fin:List Bool) (al:List A) (d:Int) (hv:okF fin al=true) (hd:0<=d/\d<=1000000) (hR:R.length<=1000000):HT Try.prog 83 [.sl R.length (recs aC R),.agg (dE fin al),.int .i64 d] (fun r=>r=.osl 4 (R++al.map (mg d)).length (recs aC (R++al.map (mg d)))):=by
 refine HT.of rfl agt (aZ rfl) ?_
 unfold c83
 obtain ⟨h1,h2,h3⟩:=bY hv
 have hin:=fun a (ha:a∈al)=>cu hv ha
 simp only [aA,Nat.reduceAdd,dE,fB]
 refine zF ⟨?_⟩
 refine aI [2,4,7,8] (fun i:Nat=>i<=al.length)
  (fun i=>⟨[(2,.int .i64 d),(4,.pref 0 [] 0),(7,.ref 1 [] 4 0 (R++(al.take i).map (mg d)).length),(8,.int .i64 i)],[(0,.optr [.sl fin.length (HL.bools fin),.sl al.length (recs aC al)]),(1,.osl 4 (R++(al.take i).map (mg d)).length (recs aC (R++(al.take i).map (mg d))))],2⟩)
  (fun i=>al.length - i) 0 (by omega) (by simp;rfl) ?_
 intro i hi
 have hl:(R++(al.take i).map (mg d)).length<=R.length+i:=by rw [bD,List.length_map,dS];omega
 by_cases hil:i<al.length
 ·have hst:=O7 R d hil
  have hok:=hin (al.getD i default) (by rw [bH,bM hil];exact gy hil)
  generalize hQ:R++(al.take i).map (mg d)=Q at hst hl ⊢
  refine zF ⟨?_⟩
  refine aP [2,4,7,8] (i+1) hil (by omega) ?_
  rw [hst]
  simp only [bD,List.length_cons,List.length_nil,Nat.zero_add]
  rfl
 ·have e0:al.take i=al:=kD (by omega)
  rw [e0] at hl ⊢
  generalize R++al.map (mg d)=Q at hl ⊢
  refine zF ⟨?_⟩
  refine ae ?_
  rfl
def SC:List HV->HV
 | [.sl n cs,.agg [_,.sl m ds],.int _ d]=>.osl 4 (n+m) (cs++shC d ds)
 | [.nils,.agg [_,.sl m ds],.int _ d]=>.osl 4 m (shC d ds)
 | _=>.dead
theorem QK (R:List A) (fin:List Bool) (al:List A) (d:Int) (hv:okF fin al=true) (hd:0<=d/\d<=1000000) (hR:R.length<=1000000):HT Try.prog 83 [.sl R.length (recs aC R),.agg [.sl fin.length (HL.bools fin),.sl al.length (recs aC al)],.int .i64 d] (fun r=>r=SC [.sl R.length (recs aC R),.agg [.sl fin.length (HL.bools fin),.sl al.length (recs aC al)],.int .i64 d]) :=
 (Hl R fin al d hv hd hR).mono fun r h=>by
  rw [h]
  simp only [SC,jq,bD,List.length_map]
  rw [mF]
theorem aaC (fin:List Bool) (al:List A) (d:Int) (hv:okF fin al=true) (hd:0<=d/\d<=1000000):HT Try.prog 83 [.nils,.agg [.sl fin.length (HL.bools fin),.sl al.length (recs aC al)],.int .i64 d] (fun r=>r=SC [.nils,.agg [.sl fin.length (HL.bools fin),.sl al.length (recs aC al)],.int .i64 d]) :=
 HT.arg (fun F hp rvs o=>TF o) ((Hl [] fin al d hv hd (by simp)).mono fun r h=>by
  rw [h]
  simp only [SC,jq,List.nil_append,List.length_map])
theorem TG {R:List A} {b:HV} {al:List A} {d:Int}:SC [.sl R.length (recs aC R),.agg [b,.sl al.length (recs aC al)],.int .i64 d]=.osl 4 (R++al.map (mg d)).length (recs aC (R++al.map (mg d))):=by
 simp only [SC,jq,bD,List.length_map]
 rw [mF]
theorem abb {b:HV} {al:List A} {d:Int}:SC [.nils,.agg [b,.sl al.length (recs aC al)],.int .i64 d]=.osl 4 (al.map (mg d)).length (recs aC (al.map (mg d))):=by
 simp only [SC,jq,List.length_map]
theorem RQ (R:List A):stripL (win (recs aC R) 0 (R.length*4))=recs aC R:=by rw [uV _ rfl,gQ]
theorem SG (R:List A) (n:Nat):(HV.osl 4 n (recs aC R)).deep=[]:=by simp [HV.deep,bP]
theorem TZ {p q:Tn} (hp:okF p.1 p.2=true) (hq:okF q.1 q.2=true):Dc [p,q]=decide (p.1.length+q.1.length<=2000/\p.2.length+q.2.length<=6000):=by
 simp only [Dc,xC,List.all_nil,Bool.and_true,ER,EX,dV,pY,List.sum_cons,List.sum_nil,Nat.add_zero,hp,hq,Bool.and_self,jf]
theorem acF (p q:Tn) (h1:p.1.length<=1000000000/\p.2.length<=1000000000) (h2:q.1.length<=1000000000/\q.2.length<=1000000000):HT Try.prog 37 [.agg (fC p),.agg (fC q)] (fun r=>r=.agg (fC (I9 p q))):=by
 refine HT.ofC rfl afG [4] rfl (aZ rfl) ?_
 unfold c37
 have v1:=lK p.1 p.2 (by omega) (by omega)
 have v2:=lK q.1 q.2 (by omega) (by omega)
 have m1:=fun (R:List A) (hp:okF p.1 p.2=true) (hR:R.length<=1000000)=>QK R p.1 p.2 1 hp (by omega) hR
 have m2:=fun (R:List A) (hq:okF q.1 q.2=true) (hp:p.1.length<=2000) (hR:R.length<=1000000)=>QK R q.1 q.2 (1+p.1.length) hq (by omega) hR
 simp only [aA,Nat.reduceAdd]
 simp only [fC,dE,fB] at v1 v2 m1 m2 ⊢
 by_cases hv:Dc [p,q]=true
 ·obtain ⟨hp,hq,hs1,hs2⟩:=Vb hv
  rw [hp] at v1
  rw [hq] at v2
  replace m1:=fun R=>m1 R hp
  replace m2:=fun R=>m2 R hq (by omega)
  obtain ⟨L,hL⟩:∃L,[jm 0 1,jm 0 (1+(p.1.length:Int))]++p.2.map (mg 1)++q.2.map (mg (1+(p.1.length:Int)))=L:=⟨_,rfl⟩
  obtain ⟨B,hB⟩:∃B,[false]++(p.1++q.1)=B:=⟨_,rfl⟩
  have hBl:1+p.1.length+q.1.length=B.length:=by rw [<- hB];simp;omega
  have hbb:HV.bool false::HL.bools p.1++HL.bools q.1=HL.bools B:=by rw [<- hB];simp [HL.bools]
  have ho:I9 p q=(B,L):=by unfold I9;rw [if_pos hv,<- hL,<- hB]
  have hd1:∃v,v=SC [.sl 2 (recs aC [jm 0 1,jm 0 (1+(p.1.length:Int))]),.agg [.sl p.1.length (HL.bools p.1),.sl p.2.length (recs aC p.2)],.int .i64 1]/\v.deep=[]:=⟨_,rfl,by rw [show (2:Nat)=[jm 0 1,jm 0 (1+(p.1.length:Int))].length from rfl,TG];exact SG _ _⟩
  have e1:=TG (R:=[jm 0 1,jm 0 (1+(p.1.length:Int))]) (b:=.sl p.1.length (HL.bools p.1)) (al:=p.2) (d:=1)
  have hRg:stripL (win (recs aC [jm 0 1,jm 0 (1+(p.1.length:Int))]) 0 8)=recs aC [jm 0 1,jm 0 (1+(p.1.length:Int))]:=RQ [jm 0 1,jm 0 (1+(p.1.length:Int))]
  replace m1:=m1 [jm 0 1,jm 0 (1+(p.1.length:Int))] (by simp)
  have hRl:([jm 0 1,jm 0 (1+(p.1.length:Int))]++p.2.map (mg 1)).length<=10000:=by simp;omega
  generalize [jm 0 1,jm 0 (1+(p.1.length:Int))]++p.2.map (mg 1)=R at e1 hL hRl
  replace m2:=m2 R (by omega)
  have e2:=TG (R:=R) (b:=.sl q.1.length (HL.bools q.1)) (al:=q.2) (d:=1+p.1.length)
  have hd2:∃v,v=SC [.sl R.length (recs aC R),.agg [.sl q.1.length (HL.bools q.1),.sl q.2.length (recs aC q.2)],.int .i64 (1+p.1.length)]/\v.deep=[]:=⟨_,rfl,by rw [e2];exact SG _ _⟩
  rw [hL] at e2
  have hRf:=RQ R
  refine zF ⟨?_⟩
  refine aF ay aK (v1) ?_
  rintro _ rfl
  refine zG ⟨?_⟩
  refine zF ⟨?_⟩
  refine aF ay aK (v2) ?_
  rintro _ rfl
  refine zG ⟨?_⟩
  refine zF ⟨?_⟩
  rw [if_pos (show 1+p.1.length=p.1.length+1 by omega),hbb,hBl]
  refine aX 608 [1,4] [2,3,4,5,6] ⟨[(2,.pref 0 [] 0),(3,.pref 1 [] 0),(4,.pref 2 [] 0),(5,.int .i64 (1+p.1.length)),(6,.pref 3 [] 0)],[(0,.optr [.sl p.1.length (HL.bools p.1),.sl p.2.length (recs aC p.2)]),(1,.optr [.sl q.1.length (HL.bools q.1),.sl q.2.length (recs aC q.2)]),(2,.optr [.nils,.nils]),(3,.optr [.osl 1 B.length (HL.bools B),.osl 4 2 (recs aC [jm 0 1,jm 0 (1+(p.1.length:Int))])])],4⟩ rfl rfl ?_
  refine bG ah ah (fun _ args r=>r=SC args) ?_
  refine zF ⟨?_⟩
  refine bI ay (zW @hRg) m1 hd1 ?_
  rintro _ rfl -
  rw [e1]
  refine ⟨(by simp only [aJ,jb,HV.refFree,dm,HV.noRd,HL.ints_noRd,HL.bools_noRd,dR,mZ,lX,l9,kE,Bool.and_true,jf,Bool.and_self,mQ,beq_self_eq_true,List.cons_append,List.nil_append]),_,_,_,_,_,zT,(by decide),lH,?_⟩
  refine zF ⟨?_⟩
  refine bI ay (zW @hRf) m2 hd2 ?_
  rintro _ rfl -
  rw [e2]
  refine ⟨(by simp only [aJ,jb,HV.refFree,dm,HV.noRd,HL.ints_noRd,HL.bools_noRd,dR,mZ,lX,l9,kE,Bool.and_true,jf,Bool.and_self,mQ,beq_self_eq_true,List.cons_append,List.nil_append]),_,_,_,_,_,zT,(by decide),lH,?_⟩
  refine zQ ⟨?_⟩
  refine az 3 [4,6] ⟨[(4,.pref 0 [] 0),(6,.ptr (stripL [.osl 1 B.length (HL.bools B),.osl 4 L.length (recs aC L)]) 0)],[(0,.optr [.nils,.nils])],1⟩ rfl ?_
  rw [fD]
  refine zF ⟨?_⟩
  refine ae ?_
  exact ⟨_,_,rfl,rfl,by rw [ho];rfl⟩
 ·have ho:I9 p q=([],[]):=by unfold I9;rw [if_neg hv]
  clear m1 m2
  cases hp:okF p.1 p.2 with
  | false =>
   rw [hp] at v1
   refine zF ⟨?_⟩
   refine aF ay aK (v1) ?_
   rintro _ rfl
   refine zG ⟨?_⟩
   refine zF ⟨?_⟩
   refine aX 32 [1,4] [4] (⟨[(4,.pref 0 [] 0)],[(0,.optr [.osl 1 0 [],.osl 4 0 []])],1⟩:St) rfl rfl ?_
   refine bQ 0 [4] ⟨[(4,.pref 0 [] 0)],[(0,.optr [.sl 0 [],.sl 0 []])],1⟩ rfl rfl ?_
   refine ae ?_
   exact ⟨_,_,rfl,rfl,by rw [ho];rfl⟩
  | true =>
   rw [hp] at v1
   cases hq:okF q.1 q.2 with
   | false =>
    rw [hq] at v2
    refine zF ⟨?_⟩
    refine aF ay aK (v1) ?_
    rintro _ rfl
    refine zG ⟨?_⟩
    refine zF ⟨?_⟩
    refine aF ay aK (v2) ?_
    rintro _ rfl
    refine zG ⟨?_⟩
    refine zF ⟨?_⟩
    refine aX 32 [1,4] [4] (⟨[(4,.pref 0 [] 0)],[(0,.optr [.osl 1 0 [],.osl 4 0 []])],1⟩:St) rfl rfl ?_
    refine bQ 0 [4] ⟨[(4,.pref 0 [] 0)],[(0,.optr [.sl 0 [],.sl 0 []])],1⟩ rfl rfl ?_
    refine ae ?_
    exact ⟨_,_,rfl,rfl,by rw [ho];rfl⟩
   | true =>
    rw [hq] at v2
    obtain ⟨p1,p2,p3⟩:=bY hp
    obtain ⟨q1,q2,q3⟩:=bY hq
    rw [TZ hp hq,decide_eq_true_iff] at hv
    by_cases hs1:p.1.length+q.1.length<=2000
    ·have hs2:¬ p.2.length+q.2.length<=6000:=fun h=>hv ⟨hs1,h⟩
     refine zF ⟨?_⟩
     refine aF ay aK (v1) ?_
     rintro _ rfl
     refine zG ⟨?_⟩
     refine zF ⟨?_⟩
     refine aF ay aK (v2) ?_
     rintro _ rfl
     refine zG ⟨?_⟩
     refine zF ⟨?_⟩
     refine aX 32 [1,4] [4] (⟨[(4,.pref 0 [] 0)],[(0,.optr [.osl 1 0 [],.osl 4 0 []])],1⟩:St) rfl rfl ?_
     refine bQ 0 [4] ⟨[(4,.pref 0 [] 0)],[(0,.optr [.sl 0 [],.sl 0 []])],1⟩ rfl rfl ?_
     refine ae ?_
     exact ⟨_,_,rfl,rfl,by rw [ho];rfl⟩
    ·clear hv
     refine zF ⟨?_⟩
     refine aF ay aK (v1) ?_
     rintro _ rfl
     refine zG ⟨?_⟩
     refine zF ⟨?_⟩
     refine aF ay aK (v2) ?_
     rintro _ rfl
     refine zG ⟨?_⟩
     refine zF ⟨?_⟩
     refine aX 32 [1,4] [4] (⟨[(4,.pref 0 [] 0)],[(0,.optr [.osl 1 0 [],.osl 4 0 []])],1⟩:St) rfl rfl ?_
     refine bQ 0 [4] ⟨[(4,.pref 0 [] 0)],[(0,.optr [.sl 0 [],.sl 0 []])],1⟩ rfl rfl ?_
     refine ae ?_
     exact ⟨_,_,rfl,rfl,by rw [ho];rfl⟩
end Go.Proofs.Ytlbdmpjnmfmnfaa
end
