import Derived.Test.YtlbdmpjnmfmnfaaFt2
import Derived.Test.YtlbdmpjnmfmnfaaFs2
import Derived.Test.YtlbdmpjnmfmnfaaHlFi
import Derived.Test.YtlbdmpjnmfmnfaaHlLg
set_option linter.unusedSimpArgs false
set_option linter.unusedVariables false
namespace Go.Proofs.Ytlbdmpjnmfmnfaa
open Go.RowKit Go.HL Go.FS
def idx (n:Nat):List HV:=(List.range n).map fun i:Nat=>.int .i64 i
theorem Ar (n:Nat):bJ (idx n)=true:=by simp [idx,bJ,fG]
theorem Ia (n:Nat):idx n++[.int .i64 n]=idx (n+1):=by simp [idx,List.range_succ]
theorem y5 {n j:Nat} (h:j<n):(idx n).getD j .dead=.int .i64 j:=by simp [idx,h]
abbrev Lj (l:List Nd):HV:=.omap ⟨.ints 2,none⟩ (l.map pk) (idx l.length)
theorem EJ {l:List Nd} {p q:Int} (z:HV) (id:Nat) (pa:List Nat) (h:(p,q)∈l):lh id pa (l.map pk) (idx l.length) z (.agg [.int .i64 p,.int .i64 q])=(.int .i64 (Pq l (p,q)),true):=by
 rw [qH (by simp [idx]) (Ar _),show HV.agg [.int .i64 p,.int .i64 q]=pk (p,q) from rfl]
 unfold xm
 rw [jo yz,if_pos h]
 exact Prod.ext (y5 (II h)) rfl
theorem lY {l:List Nd} {p q:Int} (z:HV) (id:Nat) (pa:List Nat) (h:(p,q) ∉ l):lh id pa (l.map pk) (idx l.length) z (.agg [.int .i64 p,.int .i64 q])=(z,false):=by
 rw [qH (by simp [idx]) (Ar _),show HV.agg [.int .i64 p,.int .i64 q]=pk (p,q) from rfl]
 unfold xm
 rw [jo yz,if_neg h]
theorem jV {l:List Nd} {p q:Int} {n:Nat} (hn:n=l.length) (h:(p,q) ∉ l):qx ⟨.ints 2,none⟩ (l.map pk) (idx l.length) (.agg [.int .i64 p,.int .i64 q]) (.int .i64 n)=.omap ⟨.ints 2,none⟩ ((l++[(p,q)]).map pk) (idx (l++[(p,q)]).length):=by
 subst hn
 rw [show HV.agg [.int .i64 p,.int .i64 q]=pk (p,q) from rfl,zD yz _ _ _ _ h,Ia]
 simp
abbrev iW (l:List Nd):HV:=.optr [Lj l]
abbrev iV (l:List Nd):HV:=.optr [.osl 2 l.length (recs pC l)]
abbrev iQ (F:List Bool) (R:List A):HV:=.optr [.osl 1 F.length (HL.bools F),.osl 4 R.length (recs aC R)]
theorem JW {L:Lk} {fr id:Nat} {path:List Nat} {m:MK} {ks cs:List HV} {kk:KK} {ok b:Bool} {zz kx w:HV} (hn:aA (L id) path=.omap m ks cs) (hm:lh id path ks cs zz kx=(w,b)):ay L fr (.mlook ok kk zz (.mref id path) kx)=(okV ok w b,[],m.kind=kk/\dJ kk kx=true):=by
 unfold lh at hm
 cases hf:dU kx ks<;>rw [hf] at hm<;>simp only [Prod.mk.injEq] at hm<;>obtain ⟨rfl,rfl⟩:=hm<;>simp only [ay,hn,hf]
set_option maxHeartbeats 8000000 in
theorem step_end {Kp:HV->Prop} (i a b p q:Int) (l:List Nd) (F:List Bool) (R:List A) (j:Nat) (hR:R.length<=100000000) (hg:∀z id pa,lh id pa (l.map pk) (idx l.length) z (.agg [.int .i64 p,.int .i64 q])=(.int .i64 j,true))
  (h:Kp (dA [iW l,iV l,iQ F (R++[⟨i,a,b,j⟩])])) :
  hx Try.prog [.c Ij] (finish [4,5,6] Kp) ⟨[(0,.int .i64 i),(1,.int .i64 a),(2,.int .i64 b),(4,.pref 0 [] 0),(5,.pref 1 [] 0),(6,.pref 2 [] 0),(10,.pref 3 [] 0)],[(0,iW l),(1,iV l),(2,iQ F R),(3,.optr [.int .i64 p,.int .i64 q])],4⟩:=by
 unfold Ij
 unfold iW iV iQ Lj at h ⊢
 refine Jt bM ?_
 refine qE (.pref 2 [] 1) _ rfl rfl (by trivial) rfl bM ?_
 refine qE (.ref 2 [1] 4 0 R.length) _ rfl rfl (Nat.le_of_ble_eq_true rfl) rfl bM ?_
 refine qE (.int .i64 i) _ rfl rfl (by trivial) rfl bM ?_
 refine qE (.int .i64 a) _ rfl rfl (by trivial) rfl bM ?_
 refine qE (.int .i64 b) _ rfl rfl (by trivial) rfl bM ?_
 refine qE (.mref 0 [0]) _ rfl rfl (Nat.le_of_ble_eq_true rfl) rfl bM ?_
 refine qE (.agg [.int .i64 p,.int .i64 q]) _ rfl rfl ⟨Nat.le_of_ble_eq_true rfl,Nat.le_of_ble_eq_true rfl,rfl⟩ rfl bM ?_
 refine qE (side:=KK.ints 2=KK.ints 2/\dJ (.ints 2) (.agg [.int .i64 p,.int .i64 q])=true) (.int .i64 j) _ rfl ?_ ⟨rfl,rfl⟩ rfl bM ?_
 ·exact JW (m:=⟨.ints 2,none⟩) rfl (hg (.int .i64 0) 0 [0])
 refine qE (.agg [.int .i64 i,.int .i64 a,.int .i64 b,.int .i64 j]) _ rfl rfl (by simp [jH,setFrom,cellsOf,sG,ev,aG]) rfl bM ?_
 refine Nz (.ref 148 [] 4 0 1) [.put 148 (.osl 4 1 [.int .i64 i,.int .i64 a,.int .i64 b,.int .i64 j])] rfl rfl rfl (by refine ⟨?_,rfl,rfl⟩;repeat (first|trivial|refine ⟨?_,?_⟩)) rfl rfl bM (by simp only [qA,zZ];rfl) ?_
 refine Nz (side:=(4=4/\0+1*4<=4/\true=true)/\(R.length+1)*32<=140737488355328/\R.length+1<=maxLen/\4=4/\0+R.length*4<=(recs aC R).length) (.ref 164 [] 4 0 (R.length+1)) [.put 2 (.optr [.osl 1 F.length (HL.bools F),.dead]),.put 164 (.osl 4 (R.length+1) (recs aC (R++[⟨i,a,b,j⟩])))] rfl rfl ?_ ⟨⟨rfl,by omega,rfl⟩,by omega,by unfold maxLen;omega,rfl,by rw [A8];omega⟩ rfl rfl bM (by simp only [qA,zZ];rfl) ?_
 ·have hw:win (recs aC R) 0 (R.length*4)++[HV.int .i64 i,.int .i64 a,.int .i64 b,.int .i64 j]=recs aC (R++[⟨i,a,b,j⟩]):=by
   rw [Aj _ rfl,xW]
  show (HV.ref 164 [] 4 0 (R.length+1),[Upd.put 2 (.optr [.osl 1 F.length (HL.bools F),.dead]),.put 164 (.osl 4 (R.length+1) (win (recs aC R) 0 (R.length*4)++[HV.int .i64 i,.int .i64 a,.int .i64 b,.int .i64 j]))],(4=4/\0+1*4<=4/\true=true)/\(R.length+1)*32<=140737488355328/\R.length+1<=maxLen/\4=4/\0+R.length*4<=(recs aC R).length)=_
  rw [hw]
 refine qE (.pref 2 [] 1) _ rfl rfl (by trivial) rfl bM ?_
 refine Nz (side:=((0=0/\R.length+1=R.length+1)/\True)/\[HV.osl 4 (R.length+1) (recs aC (R++[⟨i,a,b,j⟩]))].length=1/\0<1/\1+1<=2/\(false=true->bJ [HV.osl 4 (R.length+1) (recs aC (R++[⟨i,a,b,j⟩]))]=true)) .dead [.put 164 .dead,.kill 2 0,.put 2 (.optr [.osl 1 F.length (HL.bools F),.osl 4 (R.length+1) (recs aC (R++[⟨i,a,b,j⟩]))])] rfl rfl rfl ⟨⟨⟨rfl,rfl⟩,trivial⟩,rfl,Nat.zero_lt_one,Nat.le_refl _,fun h=>absurd h (by decide)⟩ rfl rfl bM (by simp only [qA,zZ];rfl) ?_
 refine UR rfl ?_
 refine Np (rs:=[4,5,6]) bD BZ Ol ?_
 rw [List.length_append] at h
 exact h
set_option maxHeartbeats 8000000 in
theorem yP (i a b p q:Int) (l:List Nd) (F:List Bool) (R:List A) (hl:l.length<=100000000) (hF:F.length<=100000000) (hR:R.length<=100000000) :
  HTI Try.prog 65 [.int .i64 i,.int .i64 a,.int .i64 b,.agg [.int .i64 p,.int .i64 q],iW l,iV l,iQ F R] [4,5,6] (fun r outs=>r=.tup []/\outs=[iW (add1 i (l,R) (a,b,(p,q))).1,iV (add1 i (l,R) (a,b,(p,q))).1,iQ F (add1 i (l,R) (a,b,(p,q))).2]):=by
 refine HTI.of rfl WV (Nat.le_of_ble_eq_true rfl) 7 [4,5,6] (by rfl) (by rfl) (⟨[(0,.int .i64 i),(1,.int .i64 a),(2,.int .i64 b),(3,.agg [.int .i64 p,.int .i64 q]),(4,.pref 0 [] 0),(5,.pref 1 [] 0),(6,.pref 2 [] 0)],[(0,iW l),(1,iV l),(2,iQ F R)],3⟩:St) rfl ?_
 unfold XR
 unfold iW iV iQ Lj
 by_cases h:(p,q)∈l
 ·have hg:=fun z id pa=>EJ z id pa h
  have h1:=II h
  have e:add1 i (l,R) (a,b,(p,q))=(l,R++[⟨i,a,b,Pq l (p,q)⟩]):=by unfold add1 ins;simp only [if_pos h]
  rw [e]
  generalize Pq l (p,q)=j at hg h1
  repeat (first|refine ag ?_|refine iq (by rfl) bH (by (try simp (disch:=omega) only [go_sem,reduceIte,Nat.reduceEqDiff,Nat.reduceAdd,Nat.reduceMul,hg]);try rfl) aT (by (try simp (disch:=omega) only [go_sem,hg]);try rfl) aO ?_|refine af ?_|refine dh ?_|refine ak ?_|refine ah ?_|refine ae ?_|refine aF ?_|refine iY (by rfl) ?_|refine iK (by rfl) bH aQ aT (by decide) (by (try simp (disch:=omega) only [go_sem,reduceIte,Nat.reduceEqDiff,Nat.reduceAdd,Nat.reduceMul,hg]);try rfl) iH ?_|refine fC ?_|refine pF (by rfl) (by rfl) (by exact eY rfl) aO ⟨rfl,rfl⟩ (by (try simp (disch:=omega) only [go_sem,reduceIte,Nat.reduceEqDiff,Nat.reduceAdd,Nat.reduceMul,hg]);try rfl) (by rfl) ?_)
  refine gY [0,1,2,4,5,6,10] ⟨[(0,.int .i64 i),(1,.int .i64 a),(2,.int .i64 b),(4,.pref 0 [] 0),(5,.pref 1 [] 0),(6,.pref 2 [] 0),(10,.pref 3 [] 0)],[(0,iW l),(1,iV l),(2,iQ F R),(3,.optr [.int .i64 p,.int .i64 q])],4⟩ rfl ?_
  refine step_end i a b p q l F R j hR hg ?_
  exact ⟨_,rfl,rfl,by simp [iW,iV,iQ],rfl,rfl⟩
 ·have h1:=Le h
  have hg:=fun z id pa=>EJ (l:=l++[(p,q)]) (p:=p) (q:=q) z id pa (by simp)
  have e:add1 i (l,R) (a,b,(p,q))=(l++[(p,q)],R++[⟨i,a,b,l.length⟩]):=by unfold add1 ins;simp only [if_neg h,h1]
  have hsn:(l++[(p,q)]).length=l.length+1:=by simp
  rw [h1] at hg
  rw [e]
  repeat (first|refine ag ?_|refine iq (by rfl) bH (by (try simp (disch:=omega) only [go_sem,reduceIte,Nat.reduceEqDiff,Nat.reduceAdd,Nat.reduceMul,lY _ _ _ h,jV rfl h]);try rfl) aT (by (try simp (disch:=omega) only [go_sem,lY _ _ _ h,jV rfl h]);try rfl) aO ?_|refine af ?_|refine dh ?_|refine eU (by rfl) ?_|refine au ?_|refine ah ?_|refine ae ?_|refine jK (by rfl) ?_|refine iK (by rfl) bH aQ aT (by decide) (by (try simp (disch:=omega) only [go_sem,reduceIte,Nat.reduceEqDiff,Nat.reduceAdd,Nat.reduceMul,lY _ _ _ h,jV rfl h]);try rfl) iH ?_|refine mi (by rfl) aO aQ jJ mP (by rfl) nX (by rfl) nV (by (try simp (disch:=omega) only [go_sem,reduceIte,Nat.reduceEqDiff,Nat.reduceAdd,Nat.reduceMul,lY _ _ _ h,jV rfl h]);try rfl) aT (by (try simp (disch:=omega) only [go_sem,lY _ _ _ h,jV rfl h]);try rfl) aQ jq ?_|refine bW ?_|refine fC ?_|refine lW dI (by rfl) aO rE (by (try simp (disch:=omega) only [go_sem,reduceIte,Nat.reduceEqDiff,Nat.reduceAdd,Nat.reduceMul,lY _ _ _ h,jV rfl h]);try omega) bH (by (try simp (disch:=omega) only [go_sem,reduceIte,Nat.reduceEqDiff,Nat.reduceAdd,Nat.reduceMul,lY _ _ _ h,jV rfl h]);try rfl) dI (by omega) gX aT (by (try simp (disch:=omega) only [go_sem,reduceIte,Nat.reduceEqDiff,Nat.reduceAdd,Nat.reduceMul,lY _ _ _ h,jV rfl h]);try rfl) aQ ?_|refine pF (by rfl) (by rfl) (by exact eY rfl) aO ⟨rfl,rfl⟩ (by (try simp (disch:=omega) only [go_sem,reduceIte,Nat.reduceEqDiff,Nat.reduceAdd,Nat.reduceMul,lY _ _ _ h,jV rfl h]);try rfl) (by rfl) ?_|refine oC (by rfl) aO aO kM (by trivial) kM (by exact eY rfl) ⟨rfl,rfl⟩ (by (try simp (disch:=omega) only [go_sem,reduceIte,Nat.reduceEqDiff,Nat.reduceAdd,Nat.reduceMul,lY _ _ _ h,jV rfl h]);try rfl) aQ jq ?_)
  refine gY [0,1,2,4,5,6,10] ⟨[(0,.int .i64 i),(1,.int .i64 a),(2,.int .i64 b),(4,.pref 0 [] 0),(5,.pref 1 [] 0),(6,.pref 2 [] 0),(10,.pref 3 [] 0)],[(0,iW (l++[(p,q)])),(1,iV (l++[(p,q)])),(2,iQ F R),(3,.optr [.int .i64 p,.int .i64 q])],4⟩ (by unfold iW iV iQ Lj;rw [hsn];rfl) ?_
  refine step_end i a b p q (l++[(p,q)]) F R l.length hR hg ?_
  exact ⟨_,rfl,rfl,by simp [iW,iV,iQ],rfl,rfl⟩
end Go.Proofs.Ytlbdmpjnmfmnfaa
