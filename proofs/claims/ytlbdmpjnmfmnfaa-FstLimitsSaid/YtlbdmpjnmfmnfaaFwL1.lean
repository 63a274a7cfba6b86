import Derived.Test.YtlbdmpjnmfmnfaaCodesFstLimits
import Derived.Test.YtlbdmpjnmfmnfaaFw4
import Derived.Test.YtlbdmpjnmfmnfaaFs5
set_option linter.unusedSimpArgs false
set_option linter.unusedVariables false
namespace Go.Proofs.Ytlbdmpjnmfmnfaa
set_option linter.unusedSimpArgs false
set_option linter.unnecessarySimpa false
open Go.RowKit Go.HL Go.FS
theorem KH (u v:List Int) (hu:u.any rW=false) (hv:v.any rW=false):okF (rF u v).1 (rF u v).2=decide (yV u v<=1024):=by
 by_cases h:yV u v<=1024
 ·have hb:Lu u v=false:=by unfold Lu;rw [hu,hv];simpa using h
  have e:rF u v=((List.replicate (yV u v+1) false).set (yV u v) true,N8 u v (yV u v)):=by unfold rF;rw [hb];rfl
  have g:∀ (l:List Int),l.any rW=false->∀i,-1<=l.getD i (-1)/\l.getD i (-1)<64:=fun l hl i=>by
   by_cases hi:i<l.length
   ·have hm:l[i]∈l:=List.getElem_mem hi
    have:=List.any_eq_false.1 hl _ hm
    simp only [rW,Bool.not_eq_true,Bool.not_eq_false',decide_eq_true_eq] at this
    rw [List.getD_eq_getElem?_getD,List.getElem?_eq_getElem hi]
    simp only [Option.getD_some];omega
   ·rw [List.getD_eq_getElem?_getD,List.getElem?_eq_none (by omega)];simp
  rw [decide_eq_true h,e]
  refine xh (by simp) (by simp;omega) (by rw [wH];omega) fun a ha=>?_
  simp only [N8,List.mem_map,List.mem_range] at ha
  obtain ⟨i,hi,rfl⟩:=ha
  have h1:=g u hu i
  have h2:=g v hv i
  simp only [List.length_set,List.length_replicate]
  omega
 ·have hb:Lu u v=true:=by unfold Lu;rw [hu,hv];simpa using h
  have e:rF u v=([],[]):=by unfold rF;rw [hb];rfl
  rw [e,decide_eq_false h];rfl
theorem wdZ (n:Nat):okF (rF (List.replicate n 0) []).1 (rF (List.replicate n 0) []).2=decide (n<=1024)/\okF (rF [] (List.replicate n 0)).1 (rF [] (List.replicate n 0)).2=decide (n<=1024):=by
 have hz:(List.replicate n (0:Int)).any rW=false:=by
  rw [List.any_eq_false]
  intro x hx
  rw [List.eq_of_mem_replicate hx];decide
 rw [KH _ _ hz rfl,KH _ _ rfl hz]
 simp [yV]
theorem FX {n:Nat} (h1:1<=n) (h2:n<=2048):okF (uV n) (l7 n n)=true:=by
 refine xh (by rw [kS];omega) (by rw [kS];omega) (by rw [lW];omega) fun a ha=>?_
 simp only [l7,List.mem_map,List.mem_range] at ha
 obtain ⟨i,hi,rfl⟩:=ha
 have:=Nat.mod_lt (i+1) (show n>0 by omega)
 rw [kS]
 simp only
 omega
theorem Lp {n m:Nat} (h1:1<=n) (h2:n<=2048) (h3:1<=m) (h4:m<=2048) (h:oG (l7 n n) (l7 m m)=none):oq (uV n) (uV m) (l7 n n) (l7 m m)=(([],[]),4):=by
 unfold oq
 rw [if_pos ⟨FX h1 h2,FX h3 h4⟩,h]
theorem Oa {n:Nat} (h1:1<=n) (h2:n<=1024):∃x:Tn,oq (uV n) (uV 2) (l7 n n) (l7 2 2)=(x,0)/\okF x.1 x.2=true/\x.1.length<=3000/\x.2.length<=9000:=by
 have o1:okF (uV n) (l7 n n)=true:=FX h1 (by omega)
 have o2:okF (uV 2) (l7 2 2)=true:=FX (by omega) (by omega)
 have b1:(uV n).length=n:=kS
 have b2:(uV 2).length=2:=kS
 have a1:(l7 n n).length=n:=lW
 have a2:(l7 2 2).length=2:=lW
 generalize uV n=B1 at *
 generalize l7 n n=A1 at *
 generalize uV 2=B2 at *
 generalize l7 2 2=A2 at *
 obtain ⟨x,h3,h4,h5,h6,_⟩:=PV (s:=(B1,A1)) (t:=(B2,A2)) o1 o2 n 2 n 2 iH iH iH iH (by omega) (by omega)
 exact ⟨x,h3,h4,by omega,by omega⟩
theorem Wx {k:Nat} (hk:k=1023\/k=1025):∃x:Tn,∃e:Int,oq (uV k) (uV 2) (l7 k k) (l7 2 2)=(x,e)/\x.1.length<=3000/\x.2.length<=9000/\((k=1023/\e=0/\okF x.1 x.2=true)\/(k=1025/\e=4)):=by
 rcases hk with rfl|h
 ·obtain ⟨x,h1,h2,h3,h4⟩:=Oa (n:=1023) (by omega) (by omega)
  exact ⟨x,0,h1,h3,h4,.inl ⟨rfl,rfl,h2⟩⟩
 ·exact ⟨([],[]),4,Lp (by omega) (by omega) (by omega) (by omega) (by rw [h];exact Hr),by simp,by simp,.inr ⟨h,rfl⟩⟩
theorem Rx:oq (uV 45) (uV 46) (l7 45 45) (l7 46 46)=(([],[]),4):=Lp (by omega) (by omega) (by omega) (by omega) O3
theorem QB (F:List Bool):stripL (win (HL.bools F) 0 F.length)=HL.bools F:=by
 have:=iI (HL.bools F) (n:=F.length) (by simp [HL.bools])
 rw [this,HL.bools_strip]
theorem QC (R:List A):stripL (win (recs aC R) 0 (R.length*4))=recs aC R:=by rw [uO _ rfl,iR]
set_option maxHeartbeats 16000000 in
theorem yA (long:Int) (h1 : -9223372036854775808<=long) (h2:long<=9223372036854775807) (k:Nat) (hk:k=1023\/k=1025) :
  hx Try.prog [.c Zh] (finish [6] (fun r=>r=.bool true)) ⟨[(1,.int .i64 long),(6,.bool false),(12,.int .i64 k)],[],0⟩:=by
 have l1:=wP k (by omega) (by omega)
 have l2:=wP 2 (by omega) (by omega)
 have l3:=wP 45 (by omega) (by omega)
 have l4:=wP 46 (by omega) (by omega)
 have m1:=sU (uV k) (uV 2) (l7 k k) (l7 2 2) (by rw [kS];omega) (by rw [lW];omega) (by rw [kS];omega) (by rw [lW];omega)
 have m2:=sU (uV 45) (uV 46) (l7 45 45) (l7 46 46) (by rw [kS];omega) (by rw [lW];omega) (by rw [kS];omega) (by rw [lW];omega)
 obtain ⟨x,e,hc,x1,x2,hx3⟩:=Wx hk
 rw [hc] at m1
 rw [Rx] at m2
 clear hc
 have hvd:=jF x.1 x.2 (by omega) (by omega)
 generalize hA:l7 k k=A1 at l1 m1
 generalize hB:uV k=B1 at l1 m1
 generalize l7 2 2=A2 at l2 m1
 generalize uV 2=B2 at l2 m1
 generalize l7 45 45=A3 at l3 m2
 generalize uV 45=B3 at l3 m2
 generalize l7 46 46=A4 at l4 m2
 generalize uV 46=B4 at l4 m2
 clear hA hB
 simp only [iF,jJ,xU] at l1 l2 l3 l4 m1 m2 hvd
 refine ak ?_
 refine ae ?_
 repeat (first|refine ah ?_)
 refine bT bH dw (l1) ?_
 rintro _ rfl
 refine ⟨bJ,_,_,_,_,_,gY,(by decide),bF,?_⟩
 skip
 refine bT bH dw (l2) ?_
 rintro _ rfl
 refine ⟨bJ,_,_,_,_,_,gY,(by decide),bF,?_⟩
 skip
 refine bT bH dw (m1) ?_
 rintro _ rfl
 refine ⟨bJ,_,_,_,_,_,gY,(by decide),bF,?_⟩
 repeat (first|refine ah ?_|refine af ?_|refine jA (by rfl) aQ aJ ?_|refine dH ?_|refine bI dZ ?_)
 refine bU 112 [1,6,12,13,14] ⟨[(1,.int .i64 long),(6,.bool false),(12,.int .i64 k),(13,.ptr (stripL [.osl 1 x.1.length (HL.bools x.1),.osl 4 x.2.length (recs aC x.2)]) 0),(14,.int .i64 e)],[],0⟩ rfl ?_
 rw [kJ]
 refine ak ?_
 refine ae ?_
 skip
 refine bT bH dw (l3) ?_
 rintro _ rfl
 refine ⟨bJ,_,_,_,_,_,gY,(by decide),bF,?_⟩
 skip
 refine bT bH dw (l4) ?_
 rintro _ rfl
 refine ⟨bJ,_,_,_,_,_,gY,(by decide),bF,?_⟩
 skip
 refine bT bH dw (m2) ?_
 rintro _ rfl
 refine ⟨bJ,_,_,_,_,_,gY,(by decide),bF,?_⟩
 repeat (first|refine ah ?_|refine af ?_|refine jA (by rfl) aQ aJ ?_|refine dH ?_|refine bI dZ ?_)
 refine bU 96 [1,6,12,13,14,15,16] ⟨[(1,.int .i64 long),(6,.bool false),(12,.int .i64 k),(13,.ptr [.sl x.1.length (HL.bools x.1),.sl x.2.length (recs aC x.2)] 0),(14,.int .i64 e),(15,.ptr [.sl 0 [],.sl 0 []] 0),(16,.int .i64 4)],[],0⟩ rfl ?_
 apply Aj (P:=Try.prog) (fun _:Unit=>(⟨[(1,.int .i64 long),(6,.bool false)],[],0⟩:St)) (fun _=>True)
 ·intro key
  rcases hx3 with ⟨rfl,rfl,hok⟩|⟨rfl,rfl⟩
  ·rw [hok] at hvd
   refine ak ?_
   refine ak ?_
   refine ae ?_
   repeat (first|refine ah ?_|refine aT ?_|refine lh (by rfl) (by rfl) lF ?_|refine dV ?_|refine aS ?_|refine bP ?_|refine y8 (by rfl) (by rfl) (by (try simp only [go_sem,reduceIte]);try rfl) ?_|refine bG ?_)
   refine bT bH dw (hvd) ?_
   rintro _ rfl
   refine ⟨bJ,_,_,_,_,_,gY,(by decide),bF,?_⟩
   repeat (first|refine ah ?_|refine aT ?_|refine dP ?_|refine af ?_|refine aU ?_|refine aS ?_|refine dm (by rfl) ?_|refine bP ?_|refine iU (by rfl) ?_|refine dh ?_)
   refine au ?_
   refine aI ?_
   exact dR [1,6] _ rfl (key () trivial)
  ·refine ak ?_
   refine ak ?_
   refine ae ?_
   repeat (first|refine ah ?_|refine aT ?_|refine dI ?_|refine dP ?_|refine af ?_|refine lh (by rfl) (by rfl) lF ?_|refine dV ?_|refine aS ?_|refine dm (by rfl) ?_|refine bP ?_|refine y8 (by rfl) (by rfl) (by (try simp only [go_sem,reduceIte]);try rfl) ?_|refine dh ?_)
   refine au ?_
   refine aI ?_
   exact dR [1,6] _ rfl (key () trivial)
 rintro - -
 refine ak ?_
 refine ae ?_
 repeat (first|refine ah ?_)
 refine bT bH dw (ve long 5 (by omega) (by omega) h1 h2) ?_
 rintro _ ⟨y,rfl,hy⟩
 refine ⟨bJ,_,_,_,_,_,gY,(by decide),bF,?_⟩
 repeat (first|refine ah ?_|refine af ?_|refine bM ?_)
 obtain ⟨z,hz⟩:∃z:Nat,1022+y=z:=⟨_,rfl⟩
 have hz2:(1022:Int)+y=(z:Int):=by omega
 rw [hz2]
 refine dR [6,17] ⟨[(6,.bool false),(17,.int .i64 z)],[],0⟩ rfl ?_
 have w1:=JP (List.replicate z 0) (by simp;omega)
 have w2:=Ko (List.replicate z 0) (by simp;omega)
 obtain ⟨ok1,ok2⟩:=wdZ z
 have v1:=jF (rF (List.replicate z 0) []).1 (rF (List.replicate z 0) []).2
 have v2:=jF (rF [] (List.replicate z 0)).1 (rF [] (List.replicate z 0)).2
 have wl:∀u v:List Int,(rF u v).1.length<=1025/\(rF u v).2.length<=1024:=fun u v=>by
  unfold rF
  by_cases hb:Lu u v=true
  ·rw [if_pos hb];simp
  ·rw [if_neg hb]
   unfold Lu at hb
   simp only [Bool.or_eq_true,decide_eq_true_eq,not_or] at hb
   simp only [List.length_set,List.length_replicate,wH]
   omega
 have wl1:=wl (List.replicate z 0) []
 have wl2:=wl [] (List.replicate z 0)
 replace v1:=v1 (by omega) (by omega)
 replace v2:=v2 (by omega) (by omega)
 rw [ok1] at v1
 rw [ok2] at v2
 generalize rF (List.replicate z 0) []=F1 at w1 v1 wl1
 generalize rF [] (List.replicate z 0)=F2 at w2 v2 wl2
 rw [List.length_replicate] at w1 w2
 have hlv:=EH
 have hnt:(z:Int).toNat=z:=by omega
 have f1:=QB F1.1
 have f2:=QC F1.2
 have f3:=QB F2.1
 have f4:=QC F2.2
 have f5:stripL (win (HL.ints (List.replicate z 0)) 0 z)=HL.ints (List.replicate z 0):=by
  rw [iI _ (by simp [HL.ints]),HL.ints_strip]
 simp only [iF,jJ,xU] at w1 w2 v1 v2
 by_cases hc:z<=1024
 ·rw [decide_eq_true hc] at v1 v2
  refine ak ?_
  refine ae ?_
  repeat (first|refine ah ?_|refine mP dZ (by rfl) (by omega) aO aO ?_)
  refine bT bH (by simp (disch:=omega) only [cZ,f5,hnt,HV.thaw,bV,aA,aG,if_true,if_false,reduceIte,Nat.reduceEqDiff,stripL,HV.strip,gu,fF,Nat.mul_one,List.cons_append,List.nil_append,List.append_nil,I,Bl,T3,List.getD_cons_zero,List.getD_cons_succ,HL.ints_strip,HL.bools_strip,fP];try rfl) (w1) ?_
  rintro _ rfl
  refine ⟨(by simp only [aX,mr,HV.refFree,eu,HV.noRd,HL.ints_noRd,HL.bools_noRd,Bool.or_true,Bool.true_or,Bool.or_false,Bool.false_or,Bool.and_true,Bool.true_and,Bool.and_self,List.isEmpty_nil,beq_self_eq_true,List.cons_append,List.nil_append]),_,_,_,_,_,gY,(by decide),bF,?_⟩
  skip
  refine bT bH (by simp (disch:=omega) only [cZ,f1,f2,HV.thaw,bV,aA,aG,if_true,if_false,reduceIte,Nat.reduceEqDiff,stripL,HV.strip,gu,fF,Nat.mul_one,List.cons_append,List.nil_append,List.append_nil,I,Bl,T3,List.getD_cons_zero,List.getD_cons_succ,HL.ints_strip,HL.bools_strip,fP];try rfl) (v1) ?_
  rintro _ rfl
  refine ⟨bJ,_,_,_,_,_,gY,(by decide),bF,?_⟩
  repeat (first|refine ah ?_|refine aT ?_|refine ug (by rfl) (by rfl) jU ?_|refine y8 (by rfl) (by rfl) (by (try simp only [go_sem,reduceIte,hnt]);try rfl) ?_|refine mP dZ (by rfl) (by omega) aO aO ?_)
  refine bT bH (by simp (disch:=omega) only [cZ,f5,hnt,HV.thaw,bV,aA,aG,if_true,if_false,reduceIte,Nat.reduceEqDiff,stripL,HV.strip,gu,fF,Nat.mul_one,List.cons_append,List.nil_append,List.append_nil,I,Bl,T3,List.getD_cons_zero,List.getD_cons_succ,HL.ints_strip,HL.bools_strip,fP];try rfl) (w2) ?_
  rintro _ rfl
  refine ⟨(by simp only [aX,mr,HV.refFree,eu,HV.noRd,HL.ints_noRd,HL.bools_noRd,Bool.or_true,Bool.true_or,Bool.or_false,Bool.false_or,Bool.and_true,Bool.true_and,Bool.and_self,List.isEmpty_nil,beq_self_eq_true,List.cons_append,List.nil_append]),_,_,_,_,_,gY,(by decide),bF,?_⟩
  repeat (first|refine aT ?_)
  refine bT bH (by simp (disch:=omega) only [cZ,f3,f4,HV.thaw,bV,aA,aG,if_true,if_false,reduceIte,Nat.reduceEqDiff,stripL,HV.strip,gu,fF,Nat.mul_one,List.cons_append,List.nil_append,List.append_nil,I,Bl,T3,List.getD_cons_zero,List.getD_cons_succ,HL.ints_strip,HL.bools_strip,fP];try rfl) (v2) ?_
  rintro _ rfl
  refine ⟨bJ,_,_,_,_,_,gY,(by decide),bF,?_⟩
  repeat (first|refine ah ?_|refine aT ?_|refine aU ?_|refine ug (by rfl) (by rfl) jU ?_|refine y8 (by rfl) (by rfl) (by (try simp only [go_sem,reduceIte]);try rfl) ?_)
  refine bT bH dw (hlv) ?_
  rintro _ rfl
  refine ⟨bJ,_,_,_,_,_,gY,(by decide),bF,?_⟩
  repeat (first|refine ah ?_|refine af ?_|refine aU ?_)
  refine ay ?_
  rfl
 ·rw [decide_eq_false hc] at v1 v2
  refine ak ?_
  refine ae ?_
  repeat (first|refine ah ?_|refine mP dZ (by rfl) (by omega) aO aO ?_)
  refine bT bH (by simp (disch:=omega) only [cZ,f5,hnt,HV.thaw,bV,aA,aG,if_true,if_false,reduceIte,Nat.reduceEqDiff,stripL,HV.strip,gu,fF,Nat.mul_one,List.cons_append,List.nil_append,List.append_nil,I,Bl,T3,List.getD_cons_zero,List.getD_cons_succ,HL.ints_strip,HL.bools_strip,fP];try rfl) (w1) ?_
  rintro _ rfl
  refine ⟨(by simp only [aX,mr,HV.refFree,eu,HV.noRd,HL.ints_noRd,HL.bools_noRd,Bool.or_true,Bool.true_or,Bool.or_false,Bool.false_or,Bool.and_true,Bool.true_and,Bool.and_self,List.isEmpty_nil,beq_self_eq_true,List.cons_append,List.nil_append]),_,_,_,_,_,gY,(by decide),bF,?_⟩
  skip
  refine bT bH (by simp (disch:=omega) only [cZ,f1,f2,HV.thaw,bV,aA,aG,if_true,if_false,reduceIte,Nat.reduceEqDiff,stripL,HV.strip,gu,fF,Nat.mul_one,List.cons_append,List.nil_append,List.append_nil,I,Bl,T3,List.getD_cons_zero,List.getD_cons_succ,HL.ints_strip,HL.bools_strip,fP];try rfl) (v1) ?_
  rintro _ rfl
  refine ⟨bJ,_,_,_,_,_,gY,(by decide),bF,?_⟩
  repeat (first|refine ah ?_|refine aT ?_|refine ug (by rfl) (by rfl) jU ?_|refine y8 (by rfl) (by rfl) (by (try simp only [go_sem,reduceIte,hnt]);try rfl) ?_|refine mP dZ (by rfl) (by omega) aO aO ?_)
  refine bT bH (by simp (disch:=omega) only [cZ,f5,hnt,HV.thaw,bV,aA,aG,if_true,if_false,reduceIte,Nat.reduceEqDiff,stripL,HV.strip,gu,fF,Nat.mul_one,List.cons_append,List.nil_append,List.append_nil,I,Bl,T3,List.getD_cons_zero,List.getD_cons_succ,HL.ints_strip,HL.bools_strip,fP];try rfl) (w2) ?_
  rintro _ rfl
  refine ⟨(by simp only [aX,mr,HV.refFree,eu,HV.noRd,HL.ints_noRd,HL.bools_noRd,Bool.or_true,Bool.true_or,Bool.or_false,Bool.false_or,Bool.and_true,Bool.true_and,Bool.and_self,List.isEmpty_nil,beq_self_eq_true,List.cons_append,List.nil_append]),_,_,_,_,_,gY,(by decide),bF,?_⟩
  repeat (first|refine aT ?_)
  refine bT bH (by simp (disch:=omega) only [cZ,f3,f4,HV.thaw,bV,aA,aG,if_true,if_false,reduceIte,Nat.reduceEqDiff,stripL,HV.strip,gu,fF,Nat.mul_one,List.cons_append,List.nil_append,List.append_nil,I,Bl,T3,List.getD_cons_zero,List.getD_cons_succ,HL.ints_strip,HL.bools_strip,fP];try rfl) (v2) ?_
  rintro _ rfl
  refine ⟨bJ,_,_,_,_,_,gY,(by decide),bF,?_⟩
  repeat (first|refine ah ?_|refine aT ?_|refine aU ?_|refine ug (by rfl) (by rfl) jU ?_|refine y8 (by rfl) (by rfl) (by (try simp only [go_sem,reduceIte]);try rfl) ?_)
  refine bT bH dw (hlv) ?_
  rintro _ rfl
  refine ⟨bJ,_,_,_,_,_,gY,(by decide),bF,?_⟩
  repeat (first|refine ah ?_|refine af ?_|refine aU ?_)
  refine ay ?_
  rfl
end Go.Proofs.Ytlbdmpjnmfmnfaa
