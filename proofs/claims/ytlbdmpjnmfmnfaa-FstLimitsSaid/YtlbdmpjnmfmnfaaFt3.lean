import Derived.Test.YtlbdmpjnmfmnfaaFt2
import Derived.Test.YtlbdmpjnmfmnfaaFw4
import Derived.Test.YtlbdmpjnmfmnfaaHlFi
import Derived.Test.YtlbdmpjnmfmnfaaHlLg
set_option linter.unusedSimpArgs false
set_option linter.unusedVariables false
namespace Go.Proofs.Ytlbdmpjnmfmnfaa
open Go.RowKit Go.HL Go.FS
def idx (n:Nat):List HV:=(List.range n).map fun i:Nat=>.int .i64 i
theorem CG (n:Nat):bW (idx n)=true:=by simp [idx,bW,gp]
theorem MM (n:Nat):idx n++[.int .i64 n]=idx (n+1):=by simp [idx,List.range_succ]
theorem Bq {n j:Nat} (h:j<n):(idx n).getD j .dead=.int .i64 j:=by simp [idx,h]
abbrev Oz (l:List Nd):HV:=.omap ⟨.ints 2,none⟩ (l.map pk) (idx l.length)
theorem FO {l:List Nd} {p q:Int} (z:HV) (id:Nat) (pa:List Nat) (h:(p,q)∈l):mG id pa (l.map pk) (idx l.length) z (.agg [.int .i64 p,.int .i64 q])=(.int .i64 (pg l (p,q)),true):=by
 rw [sQ (by simp [idx]) (CG _),show HV.agg [.int .i64 p,.int .i64 q]=pk (p,q) from rfl]
 unfold yQ
 rw [jW yX,if_pos h]
 exact Prod.ext (Bq (vM h)) rfl
theorem og {l:List Nd} {p q:Int} (z:HV) (id:Nat) (pa:List Nat) (h:(p,q) ∉ l):mG id pa (l.map pk) (idx l.length) z (.agg [.int .i64 p,.int .i64 q])=(z,false):=by
 rw [sQ (by simp [idx]) (CG _),show HV.agg [.int .i64 p,.int .i64 q]=pk (p,q) from rfl]
 unfold yQ
 rw [jW yX,if_neg h]
theorem kQ {l:List Nd} {p q:Int} {n:Nat} (hn:n=l.length) (h:(p,q) ∉ l):rX ⟨.ints 2,none⟩ (l.map pk) (idx l.length) (.agg [.int .i64 p,.int .i64 q]) (.int .i64 n)=.omap ⟨.ints 2,none⟩ ((l++[(p,q)]).map pk) (idx (l++[(p,q)]).length):=by
 subst hn
 rw [show HV.agg [.int .i64 p,.int .i64 q]=pk (p,q) from rfl,Dy yX _ _ _ _ h,MM]
 simp
abbrev jD (l:List Nd):HV:=.optr [Oz l]
abbrev jB (l:List Nd):HV:=.optr [.osl 2 l.length (recs pC l)]
abbrev je (F:List Bool) (R:List A):HV:=.optr [.osl 1 F.length (HL.bools F),.osl 4 R.length (recs aC R)]
theorem MN {L:Lk} {fr id:Nat} {path:List Nat} {m:MK} {ks cs:List HV} {kk:KK} {ok b:Bool} {zz kx w:HV} (hn:aG (L id) path=.omap m ks cs) (hm:mG id path ks cs zz kx=(w,b)):az L fr (.mlook ok kk zz (.mref id path) kx)=(okV ok w b,[],m.kind=kk/\dO kk kx=true):=by
 unfold mG at hm
 cases hf:eH kx ks<;>rw [hf] at hm<;>simp only [Prod.mk.injEq] at hm<;>obtain ⟨rfl,rfl⟩:=hm<;>simp only [az,hn,hf]
set_option maxHeartbeats 8000000 in
theorem step_end {Kp:HV->Prop} (i a b p q:Int) (l:List Nd) (F:List Bool) (R:List A) (j:Nat) (hR:R.length<=100000000) (hg:∀z id pa,mG id pa (l.map pk) (idx l.length) z (.agg [.int .i64 p,.int .i64 q])=(.int .i64 j,true))
  (h:Kp (dE [jD l,jB l,je F (R++[⟨i,a,b,j⟩])])) :
  hx Try.prog [.c KU] (finish [4,5,6] Kp) ⟨[(0,.int .i64 i),(1,.int .i64 a),(2,.int .i64 b),(4,.pref 0 [] 0),(5,.pref 1 [] 0),(6,.pref 2 [] 0),(10,.pref 3 [] 0)],[(0,jD l),(1,jB l),(2,je F R),(3,.optr [.int .i64 p,.int .i64 q])],4⟩:=by
 unfold KU
 unfold jD jB je Oz at h ⊢
 refine Lr bC ?_
 refine su (.pref 2 [] 1) _ rfl rfl (by trivial) rfl bC ?_
 refine su (.ref 2 [1] 4 0 R.length) _ rfl rfl (Nat.le_of_ble_eq_true rfl) rfl bC ?_
 refine su (.int .i64 i) _ rfl rfl (by trivial) rfl bC ?_
 refine su (.int .i64 a) _ rfl rfl (by trivial) rfl bC ?_
 refine su (.int .i64 b) _ rfl rfl (by trivial) rfl bC ?_
 refine su (.mref 0 [0]) _ rfl rfl (Nat.le_of_ble_eq_true rfl) rfl bC ?_
 refine su (.agg [.int .i64 p,.int .i64 q]) _ rfl rfl ⟨Nat.le_of_ble_eq_true rfl,Nat.le_of_ble_eq_true rfl,rfl⟩ rfl bC ?_
 refine su (side:=KK.ints 2=KK.ints 2/\dO (.ints 2) (.agg [.int .i64 p,.int .i64 q])=true) (.int .i64 j) _ rfl ?_ ⟨rfl,rfl⟩ rfl bC ?_
 ·exact MN (m:=⟨.ints 2,none⟩) rfl (hg (.int .i64 0) 0 [0])
 refine su (.agg [.int .i64 i,.int .i64 a,.int .i64 b,.int .i64 j]) _ rfl rfl (by simp [jQ,setFrom,cellsOf,rO,ev,aA]) rfl bC ?_
 refine PU (.ref 148 [] 4 0 1) [.put 148 (.osl 4 1 [.int .i64 i,.int .i64 a,.int .i64 b,.int .i64 j])] rfl rfl rfl (by refine ⟨?_,rfl,rfl⟩;repeat (first|trivial|refine ⟨?_,?_⟩)) rfl rfl bC (by simp only [kR,o8];rfl) ?_
 refine PU (side:=(4=4/\0+1*4<=4/\true=true)/\(R.length+1)*32<=140737488355328/\R.length+1<=maxLen/\4=4/\0+R.length*4<=(recs aC R).length) (.ref 164 [] 4 0 (R.length+1)) [.put 2 (.optr [.osl 1 F.length (HL.bools F),.dead]),.put 164 (.osl 4 (R.length+1) (recs aC (R++[⟨i,a,b,j⟩])))] rfl rfl ?_ ⟨⟨rfl,by omega,rfl⟩,by omega,by unfold maxLen;omega,rfl,by rw [wV];omega⟩ rfl rfl bC (by simp only [kR,o8];rfl) ?_
 ·have hw:win (recs aC R) 0 (R.length*4)++[HV.int .i64 i,.int .i64 a,.int .i64 b,.int .i64 j]=recs aC (R++[⟨i,a,b,j⟩]):=by
   rw [uO _ rfl,vI]
  show (HV.ref 164 [] 4 0 (R.length+1),[Upd.put 2 (.optr [.osl 1 F.length (HL.bools F),.dead]),.put 164 (.osl 4 (R.length+1) (win (recs aC R) 0 (R.length*4)++[HV.int .i64 i,.int .i64 a,.int .i64 b,.int .i64 j]))],(4=4/\0+1*4<=4/\true=true)/\(R.length+1)*32<=140737488355328/\R.length+1<=maxLen/\4=4/\0+R.length*4<=(recs aC R).length)=_
  rw [hw]
 refine su (.pref 2 [] 1) _ rfl rfl (by trivial) rfl bC ?_
 refine PU (side:=((0=0/\R.length+1=R.length+1)/\True)/\[HV.osl 4 (R.length+1) (recs aC (R++[⟨i,a,b,j⟩]))].length=1/\0<1/\1+1<=2/\(false=true->bW [HV.osl 4 (R.length+1) (recs aC (R++[⟨i,a,b,j⟩]))]=true)) .dead [.put 164 .dead,.kill 2 0,.put 2 (.optr [.osl 1 F.length (HL.bools F),.osl 4 (R.length+1) (recs aC (R++[⟨i,a,b,j⟩]))])] rfl rfl rfl ⟨⟨⟨rfl,rfl⟩,trivial⟩,rfl,Nat.zero_lt_one,Nat.le_refl _,fun h=>absurd h (by decide)⟩ rfl rfl bC (by simp only [kR,o8];rfl) ?_
 refine Vz rfl ?_
 refine PX (rs:=[4,5,6]) bH Eo RH ?_
 rw [List.length_append] at h
 exact h
set_option maxHeartbeats 8000000 in
theorem AP (i a b p q:Int) (l:List Nd) (F:List Bool) (R:List A) (hl:l.length<=100000000) (hF:F.length<=100000000) (hR:R.length<=100000000) :
  HTI Try.prog 65 [.int .i64 i,.int .i64 a,.int .i64 b,.agg [.int .i64 p,.int .i64 q],jD l,jB l,je F R] [4,5,6] (fun r outs=>r=.tup []/\outs=[jD (add1 i (l,R) (a,b,(p,q))).1,jB (add1 i (l,R) (a,b,(p,q))).1,je F (add1 i (l,R) (a,b,(p,q))).2]):=by
 refine HTI.of rfl aap (Nat.le_of_ble_eq_true rfl) 7 [4,5,6] (by rfl) (by rfl) (⟨[(0,.int .i64 i),(1,.int .i64 a),(2,.int .i64 b),(3,.agg [.int .i64 p,.int .i64 q]),(4,.pref 0 [] 0),(5,.pref 1 [] 0),(6,.pref 2 [] 0)],[(0,jD l),(1,jB l),(2,je F R)],3⟩:St) rfl ?_
 unfold c65
 unfold jD jB je Oz
 by_cases h:(p,q)∈l
 ·have hg:=fun z id pa=>FO z id pa h
  have h1:=vM h
  have e:add1 i (l,R) (a,b,(p,q))=(l,R++[⟨i,a,b,pg l (p,q)⟩]):=by unfold add1 ins;simp only [if_pos h]
  rw [e]
  generalize pg l (p,q)=j at hg h1
  repeat (first|refine ah ?_|refine iG (by rfl) bQ (by (try simp (disch:=omega) only [go_sem,reduceIte,Nat.reduceEqDiff,Nat.reduceAdd,Nat.reduceMul,hg]);try rfl) aQ (by (try simp (disch:=omega) only [go_sem,hg]);try rfl) aJ ?_|refine af ?_|refine jA (by rfl) aQ aJ ?_|refine au ?_|refine ak ?_|refine ae ?_|refine aI ?_|refine iU (by rfl) ?_|refine iZ (by rfl) bQ aO aQ (by decide) (by (try simp (disch:=omega) only [go_sem,reduceIte,Nat.reduceEqDiff,Nat.reduceAdd,Nat.reduceMul,hg]);try rfl) iM ?_|refine dX ?_|refine qH (by rfl) (by rfl) (by exact eY rfl) aJ ⟨rfl,rfl⟩ (by (try simp (disch:=omega) only [go_sem,reduceIte,Nat.reduceEqDiff,Nat.reduceAdd,Nat.reduceMul,hg]);try rfl) (by rfl) ?_)
  refine dR [0,1,2,4,5,6,10] ⟨[(0,.int .i64 i),(1,.int .i64 a),(2,.int .i64 b),(4,.pref 0 [] 0),(5,.pref 1 [] 0),(6,.pref 2 [] 0),(10,.pref 3 [] 0)],[(0,jD l),(1,jB l),(2,je F R),(3,.optr [.int .i64 p,.int .i64 q])],4⟩ rfl ?_
  refine step_end i a b p q l F R j hR hg ?_
  exact ⟨_,rfl,rfl,by simp [jD,jB,je],rfl,rfl⟩
 ·have h1:=Oi h
  have hg:=fun z id pa=>FO (l:=l++[(p,q)]) (p:=p) (q:=q) z id pa (by simp)
  have e:add1 i (l,R) (a,b,(p,q))=(l++[(p,q)],R++[⟨i,a,b,l.length⟩]):=by unfold add1 ins;simp only [if_neg h,h1]
  have hsn:(l++[(p,q)]).length=l.length+1:=by simp
  rw [h1] at hg
  rw [e]
  repeat (first|refine ah ?_|refine iG (by rfl) bQ (by (try simp (disch:=omega) only [go_sem,reduceIte,Nat.reduceEqDiff,Nat.reduceAdd,Nat.reduceMul,og _ _ _ h,kQ rfl h]);try rfl) aQ (by (try simp (disch:=omega) only [go_sem,og _ _ _ h,kQ rfl h]);try rfl) aJ ?_|refine af ?_|refine jA (by rfl) aQ aJ ?_|refine fG (by rfl) ?_|refine ax ?_|refine ak ?_|refine ae ?_|refine jC (by rfl) ?_|refine iZ (by rfl) bQ aO aQ (by decide) (by (try simp (disch:=omega) only [go_sem,reduceIte,Nat.reduceEqDiff,Nat.reduceAdd,Nat.reduceMul,og _ _ _ h,kQ rfl h]);try rfl) iM ?_|refine lK (by rfl) aJ aO jh lS (by rfl) nC (by rfl) mV (by (try simp (disch:=omega) only [go_sem,reduceIte,Nat.reduceEqDiff,Nat.reduceAdd,Nat.reduceMul,og _ _ _ h,kQ rfl h]);try rfl) aQ (by (try simp (disch:=omega) only [go_sem,og _ _ _ h,kQ rfl h]);try rfl) aO jk ?_|refine cO ?_|refine dX ?_|refine lI dZ (by rfl) aJ sK (by (try simp (disch:=omega) only [go_sem,reduceIte,Nat.reduceEqDiff,Nat.reduceAdd,Nat.reduceMul,og _ _ _ h,kQ rfl h]);try omega) bQ (by (try simp (disch:=omega) only [go_sem,reduceIte,Nat.reduceEqDiff,Nat.reduceAdd,Nat.reduceMul,og _ _ _ h,kQ rfl h]);try rfl) dZ (by omega) iC aQ (by (try simp (disch:=omega) only [go_sem,reduceIte,Nat.reduceEqDiff,Nat.reduceAdd,Nat.reduceMul,og _ _ _ h,kQ rfl h]);try rfl) aO ?_|refine qH (by rfl) (by rfl) (by exact eY rfl) aJ ⟨rfl,rfl⟩ (by (try simp (disch:=omega) only [go_sem,reduceIte,Nat.reduceEqDiff,Nat.reduceAdd,Nat.reduceMul,og _ _ _ h,kQ rfl h]);try rfl) (by rfl) ?_|refine qW (by rfl) aJ aJ lQ (by trivial) lQ (by exact eY rfl) ⟨rfl,rfl⟩ (by (try simp (disch:=omega) only [go_sem,reduceIte,Nat.reduceEqDiff,Nat.reduceAdd,Nat.reduceMul,og _ _ _ h,kQ rfl h]);try rfl) aO jk ?_)
  refine dR [0,1,2,4,5,6,10] ⟨[(0,.int .i64 i),(1,.int .i64 a),(2,.int .i64 b),(4,.pref 0 [] 0),(5,.pref 1 [] 0),(6,.pref 2 [] 0),(10,.pref 3 [] 0)],[(0,jD (l++[(p,q)])),(1,jB (l++[(p,q)])),(2,je F R),(3,.optr [.int .i64 p,.int .i64 q])],4⟩ (by unfold jD jB je Oz;rw [hsn];rfl) ?_
  refine step_end i a b p q (l++[(p,q)]) F R l.length hR hg ?_
  exact ⟨_,rfl,rfl,by simp [jD,jB,je],rfl,rfl⟩
end Go.Proofs.Ytlbdmpjnmfmnfaa
