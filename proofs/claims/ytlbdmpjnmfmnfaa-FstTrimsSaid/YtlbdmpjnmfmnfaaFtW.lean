import Derived.Test.YtlbdmpjnmfmnfaaFs7
import Derived.Test.YtlbdmpjnmfmnfaaFsM
import Derived.Test.YtlbdmpjnmfmnfaaFt9
set_option linter.unusedSimpArgs false
set_option linter.unusedVariables false
namespace Go.Proofs.Ytlbdmpjnmfmnfaa
open Go.RowKit Go.HL Go.FS
theorem Su {a b:A} (h:¬ a=b):(!(a.f==b.f&&(a.i==b.i&&(a.o==b.o&&a.t==b.t))))=true:=by
 rw [Bool.not_eq_true',<- Bool.not_eq_true]
 intro h2
 simp only [Bool.and_eq_true,beq_iff_eq] at h2
 apply h
 cases a;cases b
 simp_all
set_option maxHeartbeats 8000000 in
theorem CQ (f g:List Bool) (l m:List A) (h1:f.length<=1000000000) (h2:g.length<=1000000000) (h3:l.length<=1000000000) (h4:m.length<=1000000000):HT Try.prog 28 [.agg (fA f l),.agg (fA g m)] (fun r=>r=.bool (decide (f=g/\l=m))):=by
 refine HT.of rfl ZO (Nat.le_of_ble_eq_true rfl) ?_
 unfold c28
 simp only [aW,Nat.reduceAdd,fA,iw]
 by_cases hf:f.length=g.length
 ·by_cases hl:l.length=m.length
  ·repeat (first|refine ah ?_|refine aN ?_|refine aU ?_|refine af ?_|refine kM (by rfl) (by rfl) kQ ?_|refine aP ?_|refine aI ?_|refine ax ?_|refine au ?_|refine ae ?_|refine aA ?_|refine aF ?_|refine aB ?_|refine dD ?_)
   refine bg 0 [2,3,5] ⟨[(2,.ptr (stripL [.sl f.length (HL.bools f),.sl l.length (recs aC l)]) 0),(3,.pref 0 [] 0),(5,.int .i64 0)],[(0,.optr [.sl g.length (HL.bools g),.sl m.length (recs aC m)])],1⟩ rfl ?_
   refine bg 0 [2,3,5] ⟨[(2,.ptr (stripL [.sl f.length (HL.bools f),.sl l.length (recs aC l)]) 0),(3,.ptr (stripL [.sl g.length (HL.bools g),.sl m.length (recs aC m)]) 0),(5,.int .i64 0)],[],0⟩ rfl ?_
   rw [iU,iU]
   refine bW [2,3,5] (fun k:Nat=>k<=f.length/\f.take k=g.take k)
    (fun k=>⟨[(2,.ptr [.sl f.length (HL.bools f),.sl l.length (recs aC l)] 0),(3,.ptr [.sl g.length (HL.bools g),.sl m.length (recs aC m)] 0),(5,.int .i64 k)],[],0⟩)
    (fun k=>f.length - k) 0 ⟨by omega,by simp⟩ rfl ?_
   rintro k ⟨hk,ht⟩
   by_cases hkl:k<f.length
   ·have a1:=dA hkl
    have a2:=dA (l:=g) (k:=k) (by omega)
    cases b1:f.getD k false with
    | true =>
     cases b2:g.getD k false with
     | true =>
      repeat (first|refine ah ?_|refine di ?_|refine af ?_|refine az ?_|refine aI ?_|refine ak ?_|refine au ?_|refine ae ?_|refine aA ?_|refine aF ?_|refine aX ?_)
      refine dV aY aY (fun _ _ _=>False) ?_
      repeat (first|refine ah ?_|refine aO ?_|refine eG (by rfl) aG (by (try simp (disch:=omega) only [go_sem,b1,b2]);try rfl) ?_|refine af ?_|refine gI (by rfl) (by rfl) (by (try simp (disch:=omega) only [go_sem,Int.reduceAdd,Int.reduceSub,Int.reduceMul,b1,b2]);try rfl) ?_|refine ax ?_|refine ae ?_|refine dL ?_|refine aF ?_|refine uZ (by rfl) (by rfl) (by (try simp only [go_sem,reduceIte,b1,b2]);try rfl) ?_|refine aX ?_)
      exact dm [2,3,5] (k+1) ⟨hkl,by rw [a1,a2,ht];exact congrArg (fun x=>g.take k++[x]) (b1.trans b2.symm)⟩ (by omega) rfl
     | false =>
      repeat (first|refine ah ?_|refine di ?_|refine af ?_|refine az ?_|refine aI ?_|refine ak ?_|refine au ?_|refine ae ?_|refine aA ?_|refine aF ?_|refine aX ?_)
      refine dV aY aY (fun _ _ _=>False) ?_
      repeat (first|refine ah ?_|refine aO ?_|refine eG (by rfl) aG (by (try simp (disch:=omega) only [go_sem,b1,b2]);try rfl) ?_|refine af ?_|refine ak ?_|refine au ?_|refine ae ?_|refine uZ (by rfl) (by rfl) (by (try simp only [go_sem,reduceIte,b1,b2]);try rfl) ?_|refine aX ?_)
      refine ay ?_
      have:f≠g:=fun e=>by rw [e,b2] at b1;cases b1
      simp [dw,this]
    | false =>
     cases b2:g.getD k false with
     | false =>
      repeat (first|refine ah ?_|refine di ?_|refine af ?_|refine az ?_|refine aI ?_|refine ak ?_|refine au ?_|refine ae ?_|refine aA ?_|refine aF ?_|refine aX ?_)
      refine dV aY aY (fun _ _ _=>False) ?_
      repeat (first|refine ah ?_|refine aO ?_|refine eG (by rfl) aG (by (try simp (disch:=omega) only [go_sem,b1,b2]);try rfl) ?_|refine af ?_|refine gI (by rfl) (by rfl) (by (try simp (disch:=omega) only [go_sem,Int.reduceAdd,Int.reduceSub,Int.reduceMul,b1,b2]);try rfl) ?_|refine ax ?_|refine ae ?_|refine dL ?_|refine aF ?_|refine uZ (by rfl) (by rfl) (by (try simp only [go_sem,reduceIte,b1,b2]);try rfl) ?_|refine aX ?_)
      exact dm [2,3,5] (k+1) ⟨hkl,by rw [a1,a2,ht];exact congrArg (fun x=>g.take k++[x]) (b1.trans b2.symm)⟩ (by omega) rfl
     | true =>
      repeat (first|refine ah ?_|refine di ?_|refine af ?_|refine az ?_|refine aI ?_|refine ak ?_|refine au ?_|refine ae ?_|refine aA ?_|refine aF ?_|refine aX ?_)
      refine dV aY aY (fun _ _ _=>False) ?_
      repeat (first|refine ah ?_|refine aO ?_|refine eG (by rfl) aG (by (try simp (disch:=omega) only [go_sem,b1,b2]);try rfl) ?_|refine af ?_|refine ak ?_|refine au ?_|refine ae ?_|refine uZ (by rfl) (by rfl) (by (try simp only [go_sem,reduceIte,b1,b2]);try rfl) ?_|refine aX ?_)
      refine ay ?_
      have:f≠g:=fun e=>by rw [e,b2] at b1;cases b1
      simp [dw,this]
   ·obtain rfl:k=f.length:=by omega
    have hfg:=nZ rfl hf.symm ht
    repeat (first|refine ah ?_|refine di ?_|refine af ?_|refine az ?_|refine aI ?_|refine bQ (by rfl) ?_|refine ax ?_|refine au ?_|refine ae ?_|refine aA ?_|refine aX ?_)
    refine bW [2,3,6] (fun k:Nat=>k<=l.length/\l.take k=m.take k)
     (fun k=>⟨[(2,.ptr [.sl f.length (HL.bools f),.sl l.length (recs aC l)] 0),(3,.ptr [.sl g.length (HL.bools g),.sl m.length (recs aC m)] 0),(6,.int .i64 k)],[],0⟩)
     (fun k=>l.length - k) 0 ⟨by omega,by simp⟩ rfl ?_
    clear ht hk hkl
    rintro k ⟨hk,ht⟩
    by_cases hkl:k<l.length
    ·have a1:=dA hkl
     have a2:=dA (l:=m) (k:=k) (by omega)
     by_cases he:l.getD k default=m.getD k default
     ·repeat (first|refine ah ?_|refine di ?_|refine af ?_|refine az ?_|refine aI ?_|refine ak ?_|refine au ?_|refine ae ?_|refine aA ?_|refine aF ?_|refine aX ?_)
      refine dV aY aY (fun _ _ _=>False) ?_
      repeat (first|refine ah ?_|refine aO ?_|refine eG (by rfl) aG (by (try simp (disch:=omega) only [go_sem,he,lJ,decide_true,Bool.and_self,Bool.not_true]);try rfl) ?_|refine af ?_|refine gI (by rfl) (by rfl) (by (try simp (disch:=omega) only [go_sem,Int.reduceAdd,Int.reduceSub,Int.reduceMul,he,lJ,decide_true,Bool.and_self,Bool.not_true]);try rfl) ?_|refine ax ?_|refine ae ?_|refine dL ?_|refine aF ?_|refine O9 (by rfl) (by rfl) (by first|exact ⟨rfl,rfl,rfl,rfl⟩|decide) (by (try simp (disch:=omega) only [lJ,go_sem,reduceIte,he,lJ,decide_true,Bool.and_self,Bool.not_true]);try rfl) ?_|refine aX ?_|refine iq (by rfl) aG (by (try simp (disch:=omega) only [go_sem,reduceIte,Nat.reduceEqDiff,Nat.reduceAdd,Nat.reduceMul,he,lJ,decide_true,Bool.and_self,Bool.not_true]);try rfl) ?_)
      exact dm [2,3,6] (k+1) ⟨hkl,by rw [a1,a2,ht];exact congrArg (fun x=>m.take k++[x]) he⟩ (by omega) rfl
     ·have hne:l≠m:=fun e=>he (by rw [e])
      have hnb:=Su he
      repeat (first|refine ah ?_|refine di ?_|refine af ?_|refine az ?_|refine aI ?_|refine ak ?_|refine au ?_|refine ae ?_|refine aA ?_|refine aF ?_|refine aX ?_)
      refine dV aY aY (fun _ _ _=>False) ?_
      repeat (first|refine ah ?_|refine aO ?_|refine eG (by rfl) aG (by (try simp (disch:=omega) only [go_sem,hnb]);try rfl) ?_|refine af ?_|refine ak ?_|refine au ?_|refine ae ?_|refine O9 (by rfl) (by rfl) (by first|exact ⟨rfl,rfl,rfl,rfl⟩|decide) (by (try simp (disch:=omega) only [lJ,go_sem,reduceIte,hnb]);try rfl) ?_|refine aX ?_|refine iq (by rfl) aG (by (try simp (disch:=omega) only [go_sem,reduceIte,Nat.reduceEqDiff,Nat.reduceAdd,Nat.reduceMul,hnb]);try rfl) ?_)
      refine ay ?_
      simp [dw,hne]
    ·obtain rfl:k=l.length:=by omega
     have hlm:=nZ rfl hl.symm ht
     repeat (first|refine ah ?_|refine di ?_|refine af ?_|refine az ?_|refine aI ?_|refine bQ (by rfl) ?_|refine ax ?_|refine au ?_|refine ae ?_|refine aX ?_)
     refine ay ?_
     simp [dw,hfg,hlm]
  ·repeat (first|refine ah ?_|refine aN ?_|refine aU ?_|refine af ?_|refine kM (by rfl) (by rfl) kQ ?_|refine aP ?_|refine aI ?_|refine ak ?_|refine au ?_|refine ae ?_|refine aB ?_|refine dD ?_)
   refine ay ?_
   have:=zX hl
   simp [dw,this]
 ·repeat (first|refine ah ?_|refine dn ?_|refine aU ?_|refine af ?_|refine kM (by rfl) (by rfl) kQ ?_|refine aV ?_|refine aI ?_|refine ak ?_|refine au ?_|refine ae ?_|refine aB ?_|refine dD ?_)
  refine ay ?_
  have:=zX hf
  simp [dw,this]
def fE:Option (List Bool×List A)->List HV
 | none=>[.nils,.nils]
 | some p=>fC p
def fO (o:Option (List Bool×List A)):List Bool×List A:=o.getD ([],[])
theorem X0 (o:Option (List Bool×List A)):(fE o).map X5=fA (fO o).1 (fO o).2:=by cases o<;>rfl
theorem fER:Rec fE 2:=⟨fun o=>by cases o<;>rfl,fun o=>by cases o<;>rfl,fun o=>by cases o<;>rfl,fun o=>by cases o with
 | none=>rfl
 | some p=>exact fR.strip p⟩
theorem MH (l:List (Option (List Bool×List A))) {i:Nat} (h:i<l.length):win (recs fE l) (i*2) 2=fE (l.getD i none):=pV fER l h
theorem NL (l:List (Option (List Bool×List A))):(recs fE l).length=l.length*2:=nK fER l
attribute [go_sem] MH NL
theorem HT.fE {f:FuncId} {o:Option (List Bool×List A)} {r:List HV} {K:HV->Prop} (h:HT Try.prog f (.agg (fA (fO o).1 (fO o).2)::r) K):HT Try.prog f (.agg (fE o)::r) K :=
 HT.arg (fun F hp rvs ow=>MO (fun rvs fs o1=>by rw [<- X0];exact FM o1) ow) h
end Go.Proofs.Ytlbdmpjnmfmnfaa
