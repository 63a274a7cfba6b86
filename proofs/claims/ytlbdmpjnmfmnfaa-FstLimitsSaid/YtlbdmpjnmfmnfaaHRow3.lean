import Derived.Test.YtlbdmpjnmfmnfaaFwL1
import Derived.Test.YtlbdmpjnmfmnfaaFv6
import Derived.Test.YtlbdmpjnmfmnfaaFv9
import Derived.Test.YtlbdmpjnmfmnfaaFt2
section
set_option linter.unusedSimpArgs false
set_option linter.unusedVariables false
namespace Go.Proofs.Ytlbdmpjnmfmnfaa
set_option linter.unusedSimpArgs false
set_option linter.unnecessarySimpa false
open Go.RowKit Go.HL Go.FS
theorem Jn:Int.toNat 1000=1000:=rfl
attribute [go_sem] Jn
theorem Nv (B:List Bool) (h1:1<=B.length) (h2:B.length<=2048):okF B []=true:=xh h1 h2 (by simp) (by simp)
theorem MC {p q:Tn} (h:2000<p.1.length+q.1.length):zX [p,q]=false:=by
 simp only [zX,List.all_cons,List.all_nil,Bool.and_true,yE,xZ,List.map_cons,List.map_nil,List.sum_cons,List.sum_nil,Nat.add_zero]
 rw [Bool.and_eq_false_iff]
 exact .inr (by simp only [decide_eq_false_iff_not];omega)
set_option maxHeartbeats 16000000 in
theorem AX (many long how:Int) (h1 : -9223372036854775808<=many/\many<=9223372036854775807) (h2 : -9223372036854775808<=long/\long<=9223372036854775807) (h3 : -9223372036854775808<=how/\how<=9223372036854775807) :
  HT Try.prog 7 [.int .i64 many,.int .i64 long,.int .i64 how] (fun r=>r=.bool true):=by
 refine HT.of rfl fc7 (Nat.le_of_ble_eq_true rfl) ?_
 unfold c7
 simp only [aY,Nat.reduceAdd]
 repeat (first|refine ah ?_|refine af ?_|refine ak ?_|refine ae ?_)
 refine bT bH dw (ve many 5 (by omega) (by omega) h1.1 h1.2) ?_
 rintro _ ⟨y,rfl,hy⟩
 refine ⟨bJ,_,_,_,_,_,gY,(by decide),bF,?_⟩
 repeat (first|refine ah ?_|refine af ?_|refine bM ?_)
 obtain ⟨n,hn⟩:∃n:Nat,998+y=n:=⟨_,rfl⟩
 have hn2:(998:Int)+y=(n:Int):=by omega
 rw [hn2]
 refine dR [1,2,6,7] ⟨[(1,.int .i64 long),(2,.int .i64 how),(6,.bool false),(7,.int .i64 n)],[],0⟩ rfl ?_
 have hnt:(n:Int).toNat=n:=by omega
 have hn1:((n:Int) - 1).toNat=n - 1:=by omega
 have hrl:(List.replicate n false).length=n:=List.length_replicate
 refine ak ?_
 refine ae ?_
 repeat (first|refine ah ?_|refine af ?_|refine lK (by rfl) aJ aO jh lS (by rfl) nC (by rfl) mV (by (try simp (disch:=omega) only [go_sem,reduceIte,Nat.reduceEqDiff,Nat.reduceAdd,Nat.reduceMul,hnt]);try rfl) aQ (by (try simp (disch:=omega) only [go_sem,hnt]);try rfl) aO jk ?_|refine bI dZ ?_|refine mP dZ (by rfl) (by omega) aO aO ?_|refine bY ?_)
 refine ak ?_
 refine ae ?_
 repeat (first|refine ah ?_|refine gQ ?_|refine iG (by rfl) bQ (by (try simp (disch:=omega) only [go_sem,reduceIte,Nat.reduceEqDiff,Nat.reduceAdd,Nat.reduceMul,hn1]);try rfl) aQ (by (try simp (disch:=omega) only [go_sem,hn1]);try rfl) aJ ?_|refine af ?_|refine zo (by rfl) (by rfl) (by (try simp (disch:=omega) only [go_sem,Int.reduceAdd,Int.reduceSub,Int.reduceMul,hn1]);try rfl) ?_|refine aH ?_|refine yP (by rfl) aJ aO iM (by rfl) (by decide) bQ aO aQ (by (try simp (disch:=omega) only [go_sem,hn1]);try rfl) aO ?_)
 refine ak ?_
 refine ae ?_
 repeat (first|refine af ?_|refine dH ?_|refine bI dZ ?_|refine mP dZ (by rfl) (by omega) aO aO ?_|refine bY ?_)
 obtain ⟨B,hB⟩:∃B,(List.replicate n false).set (n - 1) true=B:=⟨_,rfl⟩
 have hBl:B.length=n:=by rw [<- hB];simp
 rw [hB]
 obtain ⟨C,hC⟩:∃C,List.replicate 1000 false=C:=⟨_,rfl⟩
 have hCl:C.length=1000:=by rw [<- hC];exact List.length_replicate
 rw [hC]
 clear hB hC
 refine fJ 48 [1,4] [1,2,6,7,8,9] ⟨[(1,.int .i64 long),(2,.int .i64 how),(6,.bool false),(7,.int .i64 n),(8,.pref 0 [] 0),(9,.pref 1 [] 0)],[(0,.optr [.osl 1 n (HL.bools B),.osl 4 0 []]),(1,.optr [.osl 1 1000 (HL.bools C),.nils])],2⟩ rfl rfl ?_
 refine fJ 1 [1,4] [1,2,6,7,8,9] ⟨[(1,.int .i64 long),(2,.int .i64 how),(6,.bool false),(7,.int .i64 n),(8,.pref 0 [] 0),(9,.pref 1 [] 0)],[(0,.optr [.osl 1 n (HL.bools B),.osl 4 0 (recs aC [])]),(1,.optr [.osl 1 1000 (HL.bools C),.osl 4 0 (recs aC [])])],2⟩ rfl rfl ?_
 refine bU 0 [1,2,6,7,8,9] ⟨[(1,.int .i64 long),(2,.int .i64 how),(6,.bool false),(7,.int .i64 n),(8,.ptr (stripL [.osl 1 n (HL.bools B),.osl 4 0 (recs aC [])]) 0),(9,.pref 0 [] 0)],[(0,.optr [.osl 1 1000 (HL.bools C),.osl 4 0 (recs aC [])])],1⟩ rfl ?_
 rw [kJ]
 refine bU 0 [1,2,6,7,8,9] ⟨[(1,.int .i64 long),(2,.int .i64 how),(6,.bool false),(7,.int .i64 n),(8,.ptr [.sl n (HL.bools B),.sl 0 (recs aC [])] 0),(9,.ptr (stripL [.osl 1 1000 (HL.bools C),.osl 4 0 (recs aC [])]) 0)],[],0⟩ rfl ?_
 rw [kJ]
 have o1:=Yn (B,[]) (C,[]) ⟨by simp only;omega,by simp⟩ ⟨by simp only;omega,by simp⟩
 have o2:=PL (C,[]) (B,[]) ⟨by simp only;omega,by simp⟩ ⟨by simp only;omega,by simp⟩
 have k1:=Nv B (by omega) (by omega)
 have k2:=Nv C (by omega) (by omega)
 have hres:(1000<n/\Ed (B,[]) (C,[])=([],[])/\lU (C,[]) (B,[])=([],[]))\/(n<=1000/\okF (Ed (B,[]) (C,[])).1 (Ed (B,[]) (C,[])).2=true/\okF (lU (C,[]) (B,[])).1 (lU (C,[]) (B,[])).2=true):=by
  by_cases h:n<=1000
  ·refine .inr ⟨h,(Zt (GZ k1 k2 iH (by simp))).1,(then_ok (GZ k2 k1 iH (by simp))).1⟩
  ·have t1:zX [((B,[]):Tn),(C,[])]=false:=MC iH
   have t2:zX [((C,[]):Tn),(B,[])]=false:=MC iH
   exact .inl ⟨by omega,by unfold Ed;rw [t1];rfl,by unfold lU;rw [t2];rfl⟩
 generalize Ed (B,[]) (C,[])=p at o1 hres
 generalize lU (C,[]) (B,[])=q at o2 hres
 simp only [fC,hBl,hCl] at o1 o2
 refine ak ?_
 refine ae ?_
 repeat (first|refine bG ?_)
 refine bT bH dw (o1) ?_
 rintro _ rfl
 refine ⟨bJ,_,_,_,_,_,gY,(by decide),bF,?_⟩
 repeat (first|refine af ?_|refine dH ?_|refine bI dZ ?_)
 refine bU 48 [1,2,6,7,8,9,10] ⟨[(1,.int .i64 long),(2,.int .i64 how),(6,.bool false),(7,.int .i64 n),(8,.ptr [.sl n (HL.bools B),.sl 0 (recs aC [])] 0),(9,.ptr [.sl 1000 (HL.bools C),.sl 0 (recs aC [])] 0),(10,.ptr (stripL [.sl p.1.length (HL.bools p.1),.sl p.2.length (recs aC p.2)]) 0)],[],0⟩ rfl ?_
 rw [o7]
 refine ak ?_
 refine ae ?_
 repeat (first|refine bG ?_)
 refine bT bH dw (o2) ?_
 rintro _ rfl
 refine ⟨bJ,_,_,_,_,_,gY,(by decide),bF,?_⟩
 repeat (first|refine af ?_|refine dH ?_|refine bI dZ ?_)
 refine bU 48 [1,2,6,7,10,11] ⟨[(1,.int .i64 long),(2,.int .i64 how),(6,.bool false),(7,.int .i64 n),(10,.ptr [.sl p.1.length (HL.bools p.1),.sl p.2.length (recs aC p.2)] 0),(11,.ptr (stripL [.sl q.1.length (HL.bools q.1),.sl q.2.length (recs aC q.2)]) 0)],[],0⟩ rfl ?_
 rw [o7]
 apply Aj (P:=Try.prog) (fun _:Unit=>(⟨[(1,.int .i64 long),(2,.int .i64 how),(6,.bool false)],[],0⟩:St)) (fun _=>True)
 ·intro key
  rcases hres with ⟨hn1000,rfl,rfl⟩|⟨hn1000,hp,hq⟩
  ·refine ak ?_
   refine ak ?_
   refine ae ?_
   repeat (first|refine ah ?_|refine aT ?_|refine dI ?_|refine dP ?_|refine af ?_|refine aU ?_|refine aS ?_|refine bM ?_|refine dm (by rfl) ?_|refine zC (by rfl) (by rfl) ?_|refine ug (by rfl) (by rfl) jU ?_|refine bP ?_|refine dh ?_)
   refine au ?_
   refine aI ?_
   exact dR [1,2,6] _ rfl (key () trivial)
  ·obtain ⟨p1,p2,p3⟩:=gm hp
   obtain ⟨q1,q2,q3⟩:=gm hq
   have v1:=jF p.1 p.2 (by omega) (by omega)
   have v2:=jF q.1 q.2 (by omega) (by omega)
   rw [hp] at v1
   rw [hq] at v2
   simp only [iF,jJ] at v1 v2
   refine ak ?_
   refine ak ?_
   refine ae ?_
   repeat (first|refine ah ?_|refine aT ?_|refine dI ?_|refine aS ?_|refine ug (by rfl) (by rfl) jU ?_|refine bP ?_|refine bG ?_)
   refine bT bH dw (v1) ?_
   rintro _ rfl
   refine ⟨bJ,_,_,_,_,_,gY,(by decide),bF,?_⟩
   repeat (first|refine ah ?_|refine aT ?_|refine iU (by rfl) ?_|refine bG ?_)
   refine bT bH dw (v2) ?_
   rintro _ rfl
   refine ⟨bJ,_,_,_,_,_,gY,(by decide),bF,?_⟩
   repeat (first|refine aT ?_|refine af ?_|refine aU ?_|refine aS ?_|refine iU (by rfl) ?_)
   refine au ?_
   refine aI ?_
   exact dR [1,2,6] _ rfl (key () trivial)
 rintro - -
 refine ak ?_
 refine ae ?_
 repeat (first|refine ah ?_|refine cO ?_)
 refine bT bH dw (ve how 3 (by omega) (by omega) h3.1 h3.2) ?_
 rintro _ ⟨z,rfl,hz⟩
 refine ⟨bJ,_,_,_,_,_,gY,(by decide),bF,?_⟩
 obtain rfl|rfl|rfl:z=0\/z=1\/z=2:=by omega
 ·repeat (first|refine ah ?_|refine gQ ?_|refine aW ?_|refine af ?_)
  exact dR [1,6,12] _ rfl (yA long h2.1 h2.2 1023 (.inl rfl))
 ·repeat (first|refine ah ?_|refine gQ ?_|refine aW ?_|refine af ?_)
  exact dR [1,6,12] _ rfl (yA long h2.1 h2.2 1025 (.inr rfl))
 ·repeat (first|refine ah ?_|refine gQ ?_|refine aW ?_|refine af ?_)
  exact dR [1,6,12] _ rfl (yA long h2.1 h2.2 1023 (.inl rfl))
end Go.Proofs.Ytlbdmpjnmfmnfaa
end
section
set_option linter.unusedSimpArgs false
set_option linter.unusedVariables false
namespace Go.Proofs.Ytlbdmpjnmfmnfaa
open Go.RowKit Go.HL
theorem said_of {P:Program} {f:FuncId} {args:List HV} {rargs:List Value} {w:World} (h:HT P f args (fun r=>r=.bool true)) (ho:OW (fun b=>b<w.heap.size) w.heap dU args rargs []) :
  Calls P f rargs.toArray w fun e w'=>e=.returned (.bool true)/\Below w.heap.size w w':=by
 refine (h.2 w rargs _ (fun b hb=>hb) ho).mono ?_
 rintro e w' ⟨rv,res,fs,rfl,rfl,h1,_,_,hb⟩
 rw [of_bool h1]
 exact ⟨rfl,hb⟩
theorem zY {F:Nat->Prop} {h:Hp} {r:List HV} {rr:List Value} {k:IntKind} {n:Int} (h2:OW F h dU r rr []):OW F h dU (.int k n::r) (.int k n::rr) []:=.int h2
end Go.Proofs.Ytlbdmpjnmfmnfaa
end
section
set_option linter.unusedSimpArgs false
set_option linter.unusedVariables false
namespace Go.Proofs.Ytlbdmpjnmfmnfaa
open Go.RowKit Go.HL
theorem Aw {n:Int} (h:(Lit.int .i64 n).wf=true) : -9223372036854775808<=n/\n<=9223372036854775807:=by
 simp only [Lit.wf,Bool.and_eq_true,decide_eq_true_eq] at h
 have e1:IntKind.i64.min = -9223372036854775808:=rfl
 have e2:IntKind.i64.max=9223372036854775807:=rfl
 rw [e1,e2] at h
 exact h
end Go.Proofs.Ytlbdmpjnmfmnfaa
end
