import Derived.Test.YtlbdmpjnmfmnfaaFt2
import Derived.Test.YtlbdmpjnmfmnfaaFs2
import Derived.Test.YtlbdmpjnmfmnfaaFsN
import Derived.Test.YtlbdmpjnmfmnfaaHlLg
set_option linter.unusedSimpArgs false
set_option linter.unusedVariables false
namespace Go.Proofs.Ytlbdmpjnmfmnfaa
open Go.RowKit Go.HL Go.FS
def idx (n:Nat):List HV:=(List.range n).map fun i:Nat=>.int .i64 i
theorem Dk (n:Nat):cO (idx n)=true:=by simp [idx,cO,gB]
theorem Jk (n:Nat):idx n++[.int .i64 n]=idx (n+1):=by simp [idx,List.range_succ]
theorem zK {n j:Nat} (h:j<n):(idx n).getD j .dead=.int .i64 j:=by simp [idx,h]
abbrev OQ (l:List Nd):HV:=.omap ⟨.ints 2,none⟩ (l.map pk) (idx l.length)
theorem FD {l:List Nd} {p q:Int} (z:HV) (id:Nat) (pa:List Nat) (h:(p,q)∈l):mr id pa (l.map pk) (idx l.length) z (.agg [.int .i64 p,.int .i64 q])=(.int .i64 (QA l (p,q)),true):=by
 rw [rO (by simp [idx]) (Dk _),show HV.agg [.int .i64 p,.int .i64 q]=pk (p,q) from rfl]
 unfold x8
 rw [jU yV,if_pos h]
 exact Prod.ext (zK (J4 h)) rfl
theorem nG {l:List Nd} {p q:Int} (z:HV) (id:Nat) (pa:List Nat) (h:(p,q) ∉ l):mr id pa (l.map pk) (idx l.length) z (.agg [.int .i64 p,.int .i64 q])=(z,false):=by
 rw [rO (by simp [idx]) (Dk _),show HV.agg [.int .i64 p,.int .i64 q]=pk (p,q) from rfl]
 unfold x8
 rw [jU yV,if_neg h]
theorem kY {l:List Nd} {p q:Int} {n:Nat} (hn:n=l.length) (h:(p,q) ∉ l):qY ⟨.ints 2,none⟩ (l.map pk) (idx l.length) (.agg [.int .i64 p,.int .i64 q]) (.int .i64 n)=.omap ⟨.ints 2,none⟩ ((l++[(p,q)]).map pk) (idx (l++[(p,q)]).length):=by
 subst hn
 rw [show HV.agg [.int .i64 p,.int .i64 q]=pk (p,q) from rfl,Ar yV _ _ _ _ h,Jk]
 simp
abbrev jH (l:List Nd):HV:=.optr [OQ l]
abbrev jI (l:List Nd):HV:=.optr [.osl 2 l.length (recs pC l)]
abbrev jB (F:List Bool) (R:List A):HV:=.optr [.osl 1 F.length (HL.bools F),.osl 4 R.length (recs aC R)]
theorem KN {L:Lk} {fr id:Nat} {path:List Nat} {m:MK} {ks cs:List HV} {kk:KK} {ok b:Bool} {zz kx w:HV} (hn:aQ (L id) path=.omap m ks cs) (hm:mr id path ks cs zz kx=(w,b)):aH L fr (.mlook ok kk zz (.mref id path) kx)=(okV ok w b,[],m.kind=kk/\dR kk kx=true):=by
 unfold mr at hm
 cases hf:eH kx ks<;>rw [hf] at hm<;>simp only [Prod.mk.injEq] at hm<;>obtain ⟨rfl,rfl⟩:=hm<;>simp only [aH,hn,hf]
set_option maxHeartbeats 8000000 in
theorem step_end {Kp:HV->Prop} (i a b p q:Int) (l:List Nd) (F:List Bool) (R:List A) (j:Nat) (hR:R.length<=100000000) (hg:∀z id pa,mr id pa (l.map pk) (idx l.length) z (.agg [.int .i64 p,.int .i64 q])=(.int .i64 j,true))
  (h:Kp (dw [jH l,jI l,jB F (R++[⟨i,a,b,j⟩])])) :
  hx Try.prog [.c JP] (finish [4,5,6] Kp) ⟨[(0,.int .i64 i),(1,.int .i64 a),(2,.int .i64 b),(4,.pref 0 [] 0),(5,.pref 1 [] 0),(6,.pref 2 [] 0),(10,.pref 3 [] 0)],[(0,jH l),(1,jI l),(2,jB F R),(3,.optr [.int .i64 p,.int .i64 q])],4⟩:=by
 unfold JP
 unfold jH jI jB OQ at h ⊢
 refine wY aY ?_
 refine iE (.pref 2 [] 1) _ rfl rfl (by trivial) rfl aY ?_
 refine iE (.ref 2 [1] 4 0 R.length) _ rfl rfl (Nat.le_of_ble_eq_true rfl) rfl aY ?_
 refine iE (.int .i64 i) _ rfl rfl (by trivial) rfl aY ?_
 refine iE (.int .i64 a) _ rfl rfl (by trivial) rfl aY ?_
 refine iE (.int .i64 b) _ rfl rfl (by trivial) rfl aY ?_
 refine iE (.mref 0 [0]) _ rfl rfl (Nat.le_of_ble_eq_true rfl) rfl aY ?_
 refine iE (.agg [.int .i64 p,.int .i64 q]) _ rfl rfl ⟨Nat.le_of_ble_eq_true rfl,Nat.le_of_ble_eq_true rfl,rfl⟩ rfl aY ?_
 refine iE (side:=KK.ints 2=KK.ints 2/\dR (.ints 2) (.agg [.int .i64 p,.int .i64 q])=true) (.int .i64 j) _ rfl ?_ ⟨rfl,rfl⟩ rfl aY ?_
 ·exact KN (m:=⟨.ints 2,none⟩) rfl (hg (.int .i64 0) 0 [0])
 refine iE (.agg [.int .i64 i,.int .i64 a,.int .i64 b,.int .i64 j]) _ rfl rfl (by simp [kJ,setFrom,cellsOf,sG,ev,aT]) rfl aY ?_
 refine yf (.ref 148 [] 4 0 1) [.put 148 (.osl 4 1 [.int .i64 i,.int .i64 a,.int .i64 b,.int .i64 j])] rfl rfl rfl (by refine ⟨?_,rfl,rfl⟩;repeat (first|trivial|refine ⟨?_,?_⟩)) rfl rfl aY (by simp only [oV,wz];rfl) ?_
 refine yf (side:=(4=4/\0+1*4<=4/\true=true)/\(R.length+1)*32<=140737488355328/\R.length+1<=maxLen/\4=4/\0+R.length*4<=(recs aC R).length) (.ref 164 [] 4 0 (R.length+1)) [.put 2 (.optr [.osl 1 F.length (HL.bools F),.dead]),.put 164 (.osl 4 (R.length+1) (recs aC (R++[⟨i,a,b,j⟩])))] rfl rfl ?_ ⟨⟨rfl,by omega,rfl⟩,by omega,by unfold maxLen;omega,rfl,by rw [C9];omega⟩ rfl rfl aY (by simp only [oV,wz];rfl) ?_
 ·have hw:win (recs aC R) 0 (R.length*4)++[HV.int .i64 i,.int .i64 a,.int .i64 b,.int .i64 j]=recs aC (R++[⟨i,a,b,j⟩]):=by
   rw [Dh _ rfl,yJ]
  show (HV.ref 164 [] 4 0 (R.length+1),[Upd.put 2 (.optr [.osl 1 F.length (HL.bools F),.dead]),.put 164 (.osl 4 (R.length+1) (win (recs aC R) 0 (R.length*4)++[HV.int .i64 i,.int .i64 a,.int .i64 b,.int .i64 j]))],(4=4/\0+1*4<=4/\true=true)/\(R.length+1)*32<=140737488355328/\R.length+1<=maxLen/\4=4/\0+R.length*4<=(recs aC R).length)=_
  rw [hw]
 refine iE (.pref 2 [] 1) _ rfl rfl (by trivial) rfl aY ?_
 refine yf (side:=((0=0/\R.length+1=R.length+1)/\True)/\[HV.osl 4 (R.length+1) (recs aC (R++[⟨i,a,b,j⟩]))].length=1/\0<1/\1+1<=2/\(false=true->cO [HV.osl 4 (R.length+1) (recs aC (R++[⟨i,a,b,j⟩]))]=true)) .dead [.put 164 .dead,.kill 2 0,.put 2 (.optr [.osl 1 F.length (HL.bools F),.osl 4 (R.length+1) (recs aC (R++[⟨i,a,b,j⟩]))])] rfl rfl rfl ⟨⟨⟨rfl,rfl⟩,trivial⟩,rfl,Nat.zero_lt_one,Nat.le_refl _,fun h=>absurd h (by decide)⟩ rfl rfl aY (by simp only [oV,wz];rfl) ?_
 refine KX rfl ?_
 refine Nj (rs:=[4,5,6]) bK zq OV ?_
 rw [List.length_append] at h
 exact h
set_option maxHeartbeats 8000000 in
theorem zW (i a b p q:Int) (l:List Nd) (F:List Bool) (R:List A) (hl:l.length<=100000000) (hF:F.length<=100000000) (hR:R.length<=100000000) :
  HTI Try.prog 65 [.int .i64 i,.int .i64 a,.int .i64 b,.agg [.int .i64 p,.int .i64 q],jH l,jI l,jB F R] [4,5,6] (fun r outs=>r=.tup []/\outs=[jH (add1 i (l,R) (a,b,(p,q))).1,jI (add1 i (l,R) (a,b,(p,q))).1,jB F (add1 i (l,R) (a,b,(p,q))).2]):=by
 refine HTI.of rfl Z5 (Nat.le_of_ble_eq_true rfl) 7 [4,5,6] (by rfl) (by rfl) (⟨[(0,.int .i64 i),(1,.int .i64 a),(2,.int .i64 b),(3,.agg [.int .i64 p,.int .i64 q]),(4,.pref 0 [] 0),(5,.pref 1 [] 0),(6,.pref 2 [] 0)],[(0,jH l),(1,jI l),(2,jB F R)],3⟩:St) rfl ?_
 unfold c65
 unfold jH jI jB OQ
 by_cases h:(p,q)∈l
 ·have hg:=fun z id pa=>FD z id pa h
  have h1:=J4 h
  have e:add1 i (l,R) (a,b,(p,q))=(l,R++[⟨i,a,b,QA l (p,q)⟩]):=by unfold add1 ins;simp only [if_pos h]
  rw [e]
  generalize QA l (p,q)=j at hg h1
  repeat (first|refine ah ?_|refine dU (by rfl) bn (by (try simp (disch:=omega) only [go_sem,reduceIte,Nat.reduceEqDiff,Nat.reduceAdd,Nat.reduceMul,hg]);try rfl) aG (by (try simp (disch:=omega) only [go_sem,hg]);try rfl) aJ ?_|refine af ?_|refine jV (by rfl) aG aJ ?_|refine ax ?_|refine au ?_|refine ae ?_|refine aF ?_|refine iJ (by rfl) ?_|refine jo (by rfl) bn aK aG (by decide) (by (try simp (disch:=omega) only [go_sem,reduceIte,Nat.reduceEqDiff,Nat.reduceAdd,Nat.reduceMul,hg]);try rfl) gy ?_|refine dD ?_|refine qF (by rfl) (by rfl) (by exact eY rfl) aJ ⟨rfl,rfl⟩ (by (try simp (disch:=omega) only [go_sem,reduceIte,Nat.reduceEqDiff,Nat.reduceAdd,Nat.reduceMul,hg]);try rfl) (by rfl) ?_)
  refine gQ [0,1,2,4,5,6,10] ⟨[(0,.int .i64 i),(1,.int .i64 a),(2,.int .i64 b),(4,.pref 0 [] 0),(5,.pref 1 [] 0),(6,.pref 2 [] 0),(10,.pref 3 [] 0)],[(0,jH l),(1,jI l),(2,jB F R),(3,.optr [.int .i64 p,.int .i64 q])],4⟩ rfl ?_
  refine step_end i a b p q l F R j hR hg ?_
  exact ⟨_,rfl,rfl,by simp [jH,jI,jB],rfl,rfl⟩
 ·have h1:=Nu h
  have hg:=fun z id pa=>FD (l:=l++[(p,q)]) (p:=p) (q:=q) z id pa (by simp)
  have e:add1 i (l,R) (a,b,(p,q))=(l++[(p,q)],R++[⟨i,a,b,l.length⟩]):=by unfold add1 ins;simp only [if_neg h,h1]
  have hsn:(l++[(p,q)]).length=l.length+1:=by simp
  rw [h1] at hg
  rw [e]
  repeat (first|refine ah ?_|refine dU (by rfl) bn (by (try simp (disch:=omega) only [go_sem,reduceIte,Nat.reduceEqDiff,Nat.reduceAdd,Nat.reduceMul,nG _ _ _ h,kY rfl h]);try rfl) aG (by (try simp (disch:=omega) only [go_sem,nG _ _ _ h,kY rfl h]);try rfl) aJ ?_|refine af ?_|refine jV (by rfl) aG aJ ?_|refine dY (by rfl) ?_|refine ak ?_|refine au ?_|refine ae ?_|refine je (by rfl) ?_|refine jo (by rfl) bn aK aG (by decide) (by (try simp (disch:=omega) only [go_sem,reduceIte,Nat.reduceEqDiff,Nat.reduceAdd,Nat.reduceMul,nG _ _ _ h,kY rfl h]);try rfl) gy ?_|refine kF (by rfl) aJ aK jy kK (by rfl) kP (by rfl) kN (by (try simp (disch:=omega) only [go_sem,reduceIte,Nat.reduceEqDiff,Nat.reduceAdd,Nat.reduceMul,nG _ _ _ h,kY rfl h]);try rfl) aG (by (try simp (disch:=omega) only [go_sem,nG _ _ _ h,kY rfl h]);try rfl) aK jc ?_|refine bU ?_|refine dD ?_|refine kT dS (by rfl) aJ rD (by (try simp (disch:=omega) only [go_sem,reduceIte,Nat.reduceEqDiff,Nat.reduceAdd,Nat.reduceMul,nG _ _ _ h,kY rfl h]);try omega) bn (by (try simp (disch:=omega) only [go_sem,reduceIte,Nat.reduceEqDiff,Nat.reduceAdd,Nat.reduceMul,nG _ _ _ h,kY rfl h]);try rfl) dS (by omega) iH aG (by (try simp (disch:=omega) only [go_sem,reduceIte,Nat.reduceEqDiff,Nat.reduceAdd,Nat.reduceMul,nG _ _ _ h,kY rfl h]);try rfl) aK ?_|refine qF (by rfl) (by rfl) (by exact eY rfl) aJ ⟨rfl,rfl⟩ (by (try simp (disch:=omega) only [go_sem,reduceIte,Nat.reduceEqDiff,Nat.reduceAdd,Nat.reduceMul,nG _ _ _ h,kY rfl h]);try rfl) (by rfl) ?_|refine pW (by rfl) aJ aJ lN (by trivial) lN (by exact eY rfl) ⟨rfl,rfl⟩ (by (try simp (disch:=omega) only [go_sem,reduceIte,Nat.reduceEqDiff,Nat.reduceAdd,Nat.reduceMul,nG _ _ _ h,kY rfl h]);try rfl) aK jc ?_)
  refine gQ [0,1,2,4,5,6,10] ⟨[(0,.int .i64 i),(1,.int .i64 a),(2,.int .i64 b),(4,.pref 0 [] 0),(5,.pref 1 [] 0),(6,.pref 2 [] 0),(10,.pref 3 [] 0)],[(0,jH (l++[(p,q)])),(1,jI (l++[(p,q)])),(2,jB F R),(3,.optr [.int .i64 p,.int .i64 q])],4⟩ (by unfold jH jI jB OQ;rw [hsn];rfl) ?_
  refine step_end i a b p q (l++[(p,q)]) F R l.length hR hg ?_
  exact ⟨_,rfl,rfl,by simp [jH,jI,jB],rfl,rfl⟩
end Go.Proofs.Ytlbdmpjnmfmnfaa
