import Derived.Test.YtlbdmpjnmfmnfaaFt2
import Derived.Test.YtlbdmpjnmfmnfaaFs2
import Derived.Test.YtlbdmpjnmfmnfaaHlFi
import Derived.Test.YtlbdmpjnmfmnfaaHlLg
set_option linter.unusedSimpArgs false
set_option linter.unusedVariables false
namespace Go.Proofs.Ytlbdmpjnmfmnfaa
open Go.RowKit Go.HL Go.FS
def idx (n:Nat):List HV:=(List.range n).map fun i:Nat=>.int .i64 i
theorem Bh (n:Nat):bV (idx n)=true:=by simp [idx,bV,fK]
theorem Lj (n:Nat):idx n++[.int .i64 n]=idx (n+1):=by simp [idx,List.range_succ]
theorem zY {n j:Nat} (h:j<n):(idx n).getD j .dead=.int .i64 j:=by simp [idx,h]
abbrev MZ (l:List Nd):HV:=.omap ⟨.ints 2,none⟩ (l.map pk) (idx l.length)
theorem Fh {l:List Nd} {p q:Int} (z:HV) (id:Nat) (pa:List Nat) (h:(p,q)∈l):lu id pa (l.map pk) (idx l.length) z (.agg [.int .i64 p,.int .i64 q])=(.int .i64 (nT l (p,q)),true):=by
 rw [qX (by simp [idx]) (Bh _),show HV.agg [.int .i64 p,.int .i64 q]=pk (p,q) from rfl]
 unfold xO
 rw [jv yx,if_pos h]
 exact Prod.ext (zY (uo h)) rfl
theorem lX {l:List Nd} {p q:Int} (z:HV) (id:Nat) (pa:List Nat) (h:(p,q) ∉ l):lu id pa (l.map pk) (idx l.length) z (.agg [.int .i64 p,.int .i64 q])=(z,false):=by
 rw [qX (by simp [idx]) (Bh _),show HV.agg [.int .i64 p,.int .i64 q]=pk (p,q) from rfl]
 unfold xO
 rw [jv yx,if_neg h]
theorem jZ {l:List Nd} {p q:Int} {n:Nat} (hn:n=l.length) (h:(p,q) ∉ l):qF ⟨.ints 2,none⟩ (l.map pk) (idx l.length) (.agg [.int .i64 p,.int .i64 q]) (.int .i64 n)=.omap ⟨.ints 2,none⟩ ((l++[(p,q)]).map pk) (idx (l++[(p,q)]).length):=by
 subst hn
 rw [show HV.agg [.int .i64 p,.int .i64 q]=pk (p,q) from rfl,BK yx _ _ _ _ h,Lj]
 simp
abbrev jd (l:List Nd):HV:=.optr [MZ l]
abbrev je (l:List Nd):HV:=.optr [.osl 2 l.length (recs pC l)]
abbrev iY (F:List Bool) (R:List A):HV:=.optr [.osl 1 F.length (HL.bools F),.osl 4 R.length (recs aC R)]
theorem Js {L:Lk} {fr id:Nat} {path:List Nat} {m:MK} {ks cs:List HV} {kk:KK} {ok b:Bool} {zz kx w:HV} (hn:aB (L id) path=.omap m ks cs) (hm:lu id path ks cs zz kx=(w,b)):ay L fr (.mlook ok kk zz (.mref id path) kx)=(okV ok w b,[],m.kind=kk/\dK kk kx=true):=by
 unfold lu at hm
 cases hf:dS kx ks<;>rw [hf] at hm<;>simp only [Prod.mk.injEq] at hm<;>obtain ⟨rfl,rfl⟩:=hm<;>simp only [ay,hn,hf]
set_option maxHeartbeats 8000000 in
theorem step_end {Kp:HV->Prop} (i a b p q:Int) (l:List Nd) (F:List Bool) (R:List A) (j:Nat) (hR:R.length<=100000000) (hg:∀z id pa,lu id pa (l.map pk) (idx l.length) z (.agg [.int .i64 p,.int .i64 q])=(.int .i64 j,true))
  (h:Kp (dA [jd l,je l,iY F (R++[⟨i,a,b,j⟩])])) :
  hx Try.prog [.c Jo] (finish [4,5,6] Kp) ⟨[(0,.int .i64 i),(1,.int .i64 a),(2,.int .i64 b),(4,.pref 0 [] 0),(5,.pref 1 [] 0),(6,.pref 2 [] 0),(10,.pref 3 [] 0)],[(0,jd l),(1,je l),(2,iY F R),(3,.optr [.int .i64 p,.int .i64 q])],4⟩:=by
 unfold Jo
 unfold jd je iY MZ at h ⊢
 refine I9 bK ?_
 refine qM (.pref 2 [] 1) _ rfl rfl (by trivial) rfl bK ?_
 refine qM (.ref 2 [1] 4 0 R.length) _ rfl rfl (Nat.le_of_ble_eq_true rfl) rfl bK ?_
 refine qM (.int .i64 i) _ rfl rfl (by trivial) rfl bK ?_
 refine qM (.int .i64 a) _ rfl rfl (by trivial) rfl bK ?_
 refine qM (.int .i64 b) _ rfl rfl (by trivial) rfl bK ?_
 refine qM (.mref 0 [0]) _ rfl rfl (Nat.le_of_ble_eq_true rfl) rfl bK ?_
 refine qM (.agg [.int .i64 p,.int .i64 q]) _ rfl rfl ⟨Nat.le_of_ble_eq_true rfl,Nat.le_of_ble_eq_true rfl,rfl⟩ rfl bK ?_
 refine qM (side:=KK.ints 2=KK.ints 2/\dK (.ints 2) (.agg [.int .i64 p,.int .i64 q])=true) (.int .i64 j) _ rfl ?_ ⟨rfl,rfl⟩ rfl bK ?_
 ·exact Js (m:=⟨.ints 2,none⟩) rfl (hg (.int .i64 0) 0 [0])
 refine qM (.agg [.int .i64 i,.int .i64 a,.int .i64 b,.int .i64 j]) _ rfl rfl (by simp [jE,setFrom,cellsOf,sK,ev,aH]) rfl bK ?_
 refine Nu (.ref 148 [] 4 0 1) [.put 148 (.osl 4 1 [.int .i64 i,.int .i64 a,.int .i64 b,.int .i64 j])] rfl rfl rfl (by refine ⟨?_,rfl,rfl⟩;repeat (first|trivial|refine ⟨?_,?_⟩)) rfl rfl bK (by simp only [qG,Bo];rfl) ?_
 refine Nu (side:=(4=4/\0+1*4<=4/\true=true)/\(R.length+1)*32<=140737488355328/\R.length+1<=maxLen/\4=4/\0+R.length*4<=(recs aC R).length) (.ref 164 [] 4 0 (R.length+1)) [.put 2 (.optr [.osl 1 F.length (HL.bools F),.dead]),.put 164 (.osl 4 (R.length+1) (recs aC (R++[⟨i,a,b,j⟩])))] rfl rfl ?_ ⟨⟨rfl,by omega,rfl⟩,by omega,by unfold maxLen;omega,rfl,by rw [BQ];omega⟩ rfl rfl bK (by simp only [qG,Bo];rfl) ?_
 ·have hw:win (recs aC R) 0 (R.length*4)++[HV.int .i64 i,.int .i64 a,.int .i64 b,.int .i64 j]=recs aC (R++[⟨i,a,b,j⟩]):=by
   rw [BH _ rfl,yP]
  show (HV.ref 164 [] 4 0 (R.length+1),[Upd.put 2 (.optr [.osl 1 F.length (HL.bools F),.dead]),.put 164 (.osl 4 (R.length+1) (win (recs aC R) 0 (R.length*4)++[HV.int .i64 i,.int .i64 a,.int .i64 b,.int .i64 j]))],(4=4/\0+1*4<=4/\true=true)/\(R.length+1)*32<=140737488355328/\R.length+1<=maxLen/\4=4/\0+R.length*4<=(recs aC R).length)=_
  rw [hw]
 refine qM (.pref 2 [] 1) _ rfl rfl (by trivial) rfl bK ?_
 refine Nu (side:=((0=0/\R.length+1=R.length+1)/\True)/\[HV.osl 4 (R.length+1) (recs aC (R++[⟨i,a,b,j⟩]))].length=1/\0<1/\1+1<=2/\(false=true->bV [HV.osl 4 (R.length+1) (recs aC (R++[⟨i,a,b,j⟩]))]=true)) .dead [.put 164 .dead,.kill 2 0,.put 2 (.optr [.osl 1 F.length (HL.bools F),.osl 4 (R.length+1) (recs aC (R++[⟨i,a,b,j⟩]))])] rfl rfl rfl ⟨⟨⟨rfl,rfl⟩,trivial⟩,rfl,Nat.zero_lt_one,Nat.le_refl _,fun h=>absurd h (by decide)⟩ rfl rfl bK (by simp only [qG,Bo];rfl) ?_
 refine XT rfl ?_
 refine MF (rs:=[4,5,6]) bJ Em Pm ?_
 rw [List.length_append] at h
 exact h
set_option maxHeartbeats 8000000 in
theorem zX (i a b p q:Int) (l:List Nd) (F:List Bool) (R:List A) (hl:l.length<=100000000) (hF:F.length<=100000000) (hR:R.length<=100000000) :
  HTI Try.prog 65 [.int .i64 i,.int .i64 a,.int .i64 b,.agg [.int .i64 p,.int .i64 q],jd l,je l,iY F R] [4,5,6] (fun r outs=>r=.tup []/\outs=[jd (add1 i (l,R) (a,b,(p,q))).1,je (add1 i (l,R) (a,b,(p,q))).1,iY F (add1 i (l,R) (a,b,(p,q))).2]):=by
 refine HTI.of rfl YT (Nat.le_of_ble_eq_true rfl) 7 [4,5,6] (by rfl) (by rfl) (⟨[(0,.int .i64 i),(1,.int .i64 a),(2,.int .i64 b),(3,.agg [.int .i64 p,.int .i64 q]),(4,.pref 0 [] 0),(5,.pref 1 [] 0),(6,.pref 2 [] 0)],[(0,jd l),(1,je l),(2,iY F R)],3⟩:St) rfl ?_
 unfold Zh
 unfold jd je iY MZ
 by_cases h:(p,q)∈l
 ·have hg:=fun z id pa=>Fh z id pa h
  have h1:=uo h
  have e:add1 i (l,R) (a,b,(p,q))=(l,R++[⟨i,a,b,nT l (p,q)⟩]):=by unfold add1 ins;simp only [if_pos h]
  rw [e]
  generalize nT l (p,q)=j at hg h1
  repeat (first|refine ag ?_|refine iw (by rfl) bT (by (try simp (disch:=omega) only [go_sem,reduceIte,Nat.reduceEqDiff,Nat.reduceAdd,Nat.reduceMul,hg]);try rfl) aS (by (try simp (disch:=omega) only [go_sem,hg]);try rfl) aJ ?_|refine af ?_|refine iU (by rfl) aS aJ ?_|refine au ?_|refine ah ?_|refine ae ?_|refine aA ?_|refine ja (by rfl) ?_|refine iR (by rfl) bT aV aS (by decide) (by (try simp (disch:=omega) only [go_sem,reduceIte,Nat.reduceEqDiff,Nat.reduceAdd,Nat.reduceMul,hg]);try rfl) iO ?_|refine fF ?_|refine oJ (by rfl) (by rfl) (by exact eY rfl) aJ ⟨rfl,rfl⟩ (by (try simp (disch:=omega) only [go_sem,reduceIte,Nat.reduceEqDiff,Nat.reduceAdd,Nat.reduceMul,hg]);try rfl) (by rfl) ?_)
  refine gp [0,1,2,4,5,6,10] ⟨[(0,.int .i64 i),(1,.int .i64 a),(2,.int .i64 b),(4,.pref 0 [] 0),(5,.pref 1 [] 0),(6,.pref 2 [] 0),(10,.pref 3 [] 0)],[(0,jd l),(1,je l),(2,iY F R),(3,.optr [.int .i64 p,.int .i64 q])],4⟩ rfl ?_
  refine step_end i a b p q l F R j hR hg ?_
  exact ⟨_,rfl,rfl,by simp [jd,je,iY],rfl,rfl⟩
 ·have h1:=NE h
  have hg:=fun z id pa=>Fh (l:=l++[(p,q)]) (p:=p) (q:=q) z id pa (by simp)
  have e:add1 i (l,R) (a,b,(p,q))=(l++[(p,q)],R++[⟨i,a,b,l.length⟩]):=by unfold add1 ins;simp only [if_neg h,h1]
  have hsn:(l++[(p,q)]).length=l.length+1:=by simp
  rw [h1] at hg
  rw [e]
  repeat (first|refine ag ?_|refine iw (by rfl) bT (by (try simp (disch:=omega) only [go_sem,reduceIte,Nat.reduceEqDiff,Nat.reduceAdd,Nat.reduceMul,lX _ _ _ h,jZ rfl h]);try rfl) aS (by (try simp (disch:=omega) only [go_sem,lX _ _ _ h,jZ rfl h]);try rfl) aJ ?_|refine af ?_|refine iU (by rfl) aS aJ ?_|refine fC (by rfl) ?_|refine ak ?_|refine ah ?_|refine ae ?_|refine iK (by rfl) ?_|refine iR (by rfl) bT aV aS (by decide) (by (try simp (disch:=omega) only [go_sem,reduceIte,Nat.reduceEqDiff,Nat.reduceAdd,Nat.reduceMul,lX _ _ _ h,jZ rfl h]);try rfl) iO ?_|refine mD (by rfl) aJ aV jK mO (by rfl) og (by rfl) oh (by (try simp (disch:=omega) only [go_sem,reduceIte,Nat.reduceEqDiff,Nat.reduceAdd,Nat.reduceMul,lX _ _ _ h,jZ rfl h]);try rfl) aS (by (try simp (disch:=omega) only [go_sem,lX _ _ _ h,jZ rfl h]);try rfl) aV jA ?_|refine bQ ?_|refine fF ?_|refine lY dZ (by rfl) aJ tH (by (try simp (disch:=omega) only [go_sem,reduceIte,Nat.reduceEqDiff,Nat.reduceAdd,Nat.reduceMul,lX _ _ _ h,jZ rfl h]);try omega) bT (by (try simp (disch:=omega) only [go_sem,reduceIte,Nat.reduceEqDiff,Nat.reduceAdd,Nat.reduceMul,lX _ _ _ h,jZ rfl h]);try rfl) dZ (by omega) iq aS (by (try simp (disch:=omega) only [go_sem,reduceIte,Nat.reduceEqDiff,Nat.reduceAdd,Nat.reduceMul,lX _ _ _ h,jZ rfl h]);try rfl) aV ?_|refine oJ (by rfl) (by rfl) (by exact eY rfl) aJ ⟨rfl,rfl⟩ (by (try simp (disch:=omega) only [go_sem,reduceIte,Nat.reduceEqDiff,Nat.reduceAdd,Nat.reduceMul,lX _ _ _ h,jZ rfl h]);try rfl) (by rfl) ?_|refine o7 (by rfl) aJ aJ kS (by trivial) kS (by exact eY rfl) ⟨rfl,rfl⟩ (by (try simp (disch:=omega) only [go_sem,reduceIte,Nat.reduceEqDiff,Nat.reduceAdd,Nat.reduceMul,lX _ _ _ h,jZ rfl h]);try rfl) aV jA ?_)
  refine gp [0,1,2,4,5,6,10] ⟨[(0,.int .i64 i),(1,.int .i64 a),(2,.int .i64 b),(4,.pref 0 [] 0),(5,.pref 1 [] 0),(6,.pref 2 [] 0),(10,.pref 3 [] 0)],[(0,jd (l++[(p,q)])),(1,je (l++[(p,q)])),(2,iY F R),(3,.optr [.int .i64 p,.int .i64 q])],4⟩ (by unfold jd je iY MZ;rw [hsn];rfl) ?_
  refine step_end i a b p q (l++[(p,q)]) F R l.length hR hg ?_
  exact ⟨_,rfl,rfl,by simp [jd,je,iY],rfl,rfl⟩
end Go.Proofs.Ytlbdmpjnmfmnfaa
