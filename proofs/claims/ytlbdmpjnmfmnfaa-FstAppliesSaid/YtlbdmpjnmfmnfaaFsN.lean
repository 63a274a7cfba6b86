import Derived.Test.YtlbdmpjnmfmnfaaFsW
import Derived.Test.YtlbdmpjnmfmnfaaHlNv
set_option linter.unusedSimpArgs false
set_option linter.unusedVariables false
namespace Go.Proofs.Ytlbdmpjnmfmnfaa
open Go.RowKit Go.HL Go.FS
def cd (m:Nat) (x:Nd):Int:=x.1*((m:Int)+1)+x.2
section
variable {n:Nat} {w:List Int} {x y:Nd}
theorem zu (h:rP n w x):0<=x.1*((w.length:Int)+1)/\x.1*((w.length:Int)+1)+((w.length:Int)+1)<=(n:Int)*((w.length:Int)+1):=by
 obtain ⟨h1,h2,h3,h4⟩:=h
 refine ⟨Int.mul_nonneg h1 (by omega),?_⟩
 have:(x.1+1)*((w.length:Int)+1)<=(n:Int)*((w.length:Int)+1):=Int.mul_le_mul_of_nonneg_right (by omega) (by omega)
 rw [Int.add_mul] at this
 omega
theorem ng (h:rP n w x):0<=cd w.length x/\(cd w.length x).toNat<n*(w.length+1):=by
 have h1:=zu h
 obtain ⟨_,_,h3,h4⟩:=h
 unfold cd
 have e:((n*(w.length+1):Nat):Int)=(n:Int)*((w.length:Int)+1):=by push_cast;rfl
 rw [<- e] at h1
 generalize n*(w.length+1)=N at h1 ⊢
 generalize x.1*((w.length:Int)+1)=p at h1 ⊢
 omega
theorem uZ (h:rP n w x):(cd w.length x).tdiv ((w.length:Int)+1)=x.1:=by
 obtain ⟨h1,h2,h3,h4⟩:=h
 unfold cd
 rw [Int.tdiv_eq_ediv_of_nonneg (by have:=Int.mul_nonneg h1 (show (0:Int)<=(w.length:Int)+1 by omega);omega),Int.add_comm,Int.add_mul_ediv_right _ _ (by omega),Int.ediv_eq_zero_of_lt h3 (by omega)]
 omega
theorem uX (h:rP n w x):(cd w.length x).tmod ((w.length:Int)+1)=x.2:=by
 obtain ⟨h1,h2,h3,h4⟩:=h
 unfold cd
 rw [Int.tmod_eq_emod_of_nonneg (by have:=Int.mul_nonneg h1 (show (0:Int)<=(w.length:Int)+1 by omega);omega),Int.add_comm,Int.add_mul_emod_self_right,Int.emod_eq_of_lt h3 (by omega)]
theorem Tv (h:rP n w x) (h':rP n w y) (e:cd w.length x=cd w.length y):x=y:=by
 have h1:=uZ h
 have h2:=uX h
 rw [e,uZ h'] at h1
 rw [e,uX h'] at h2
 exact Prod.ext h1.symm h2.symm
end
structure GB (n:Nat) (w:List Int) (G:List Nd) (gb:List Bool):Prop where
 len:gb.length=n*(w.length+1)
 at_:∀x,rP n w x->gb.getD (cd w.length x).toNat false=decide (x∈G)
def nO (w:List Int) (G:List Nd) (a:A) (at_:Int):Int:=if (iy w G a at_).2 then cd w.length (iy w G a at_).1 else -1
def wY (w:List Int) (ll:List (List A)) (gb:List Bool):List HV:=[.sl w.length (HL.ints w),.sl ll.length (dL ll),.sl gb.length (HL.bools gb)]
theorem kN {n:Nat} {w:List Int} (hn:n<=2048) (hw:w.length<=1024):n*(w.length+1)<=2099200:=Nat.le_trans (Nat.mul_le_mul hn (show w.length+1<=1025 by omega)) (by decide)
set_option maxHeartbeats 8000000 in
theorem Dl (n:Nat) (w:List Int) (ll:List (List A)) (G:List Nd) (gb:List Bool) (a:A) (at_:Int) (h0:0<=at_) (hw:w.length<=1024) (hat:at_<=w.length) (hn:n<=2048) (ha:0<=a.t/\a.t<n) (hb:GB n w G gb):HT Try.prog 102 [.agg (wY w ll gb),.agg (aC a),.int .i64 at_] (fun r=>r=.int .i64 (nO w G a at_)):=by
 refine HT.of rfl ZU (Nat.le_of_ble_eq_true rfl) ?_
 unfold aaZ
 simp only [aX,Nat.reduceAdd,wY,aC]
 have hgl:=hb.len
 have hgb:=kN (n:=n) (w:=w) hn hw
 have key:∀z:Int,0<=z->z<=w.length->0<=a.t*((w.length:Int)+1)/\a.t*((w.length:Int)+1)+z<=3000000/\(a.t*((w.length:Int)+1)+z).toNat<gb.length/\gb.getD (a.t*((w.length:Int)+1)+z).toNat false=decide ((a.t,z)∈G):=fun z hz0 hz1=>by
  have hin:rP n w (a.t,z):=⟨ha.1,ha.2,hz0,hz1⟩
  have h1:=zu hin
  have h2:=ng hin
  have h3:=hb.at_ _ hin
  unfold cd at h2 h3
  simp only at h1 h2 h3
  rw [hgl]
  refine ⟨h1.1,?_,h2.2,h3⟩
  generalize n*(w.length+1)=N at h2 hgb
  generalize a.t*((w.length:Int)+1)=p at h2 ⊢
  omega
 by_cases hi:a.i = -1
 ·obtain ⟨k1,k2,k3,k4⟩:=key at_ h0 hat
  have hnx:nO w G a at_=if (a.t,at_)∈G then a.t*((w.length:Int)+1)+at_ else -1:=by simp only [nO,iy,if_pos hi,cd,decide_eq_true_eq]
  by_cases hmem:(a.t,at_)∈G
  ·rw [decide_eq_true hmem] at k4
   rw [if_pos hmem] at hnx
   repeat (first|refine ah ?_|refine aO ?_|refine aJ ?_|refine dA (by rfl) aG (by (try simp (disch:=omega) only [go_sem,k4,Bool.not_true]);try rfl) ?_|refine dK (by rfl) aW (by (try simp (disch:=omega) only [go_sem,reduceIte,Nat.reduceEqDiff,Nat.reduceAdd,Nat.reduceMul,k4,Bool.not_true]);try rfl) aG (by (try simp (disch:=omega) only [go_sem,k4,Bool.not_true]);try rfl) aQ ?_|refine af ?_|refine bC ?_|refine aK ?_|refine eU (by rfl) (by rfl) (by (try simp (disch:=omega) only [go_sem,Int.reduceAdd,Int.reduceSub,Int.reduceMul,k4,Bool.not_true]);try rfl) ?_|refine aB ?_|refine ak ?_|refine ax ?_|refine au ?_|refine ae ?_|refine aH ?_|refine pg (by rfl) (by rfl) (by (try simp (disch:=omega) only [go_sem,Int.reduceAdd,Int.reduceSub,Int.reduceMul,k4,Bool.not_true]);try rfl) ?_|refine dh ?_|refine gI (by rfl) ?_|refine aF ?_|refine di ?_)
   refine az ?_
   rw [hnx];rfl
  ·rw [decide_eq_false hmem] at k4
   rw [if_neg hmem] at hnx
   repeat (first|refine ah ?_|refine aO ?_|refine aJ ?_|refine dA (by rfl) aG (by (try simp (disch:=omega) only [go_sem,k4,Bool.not_false]);try rfl) ?_|refine dK (by rfl) aW (by (try simp (disch:=omega) only [go_sem,reduceIte,Nat.reduceEqDiff,Nat.reduceAdd,Nat.reduceMul,k4,Bool.not_false]);try rfl) aG (by (try simp (disch:=omega) only [go_sem,k4,Bool.not_false]);try rfl) aQ ?_|refine af ?_|refine bC ?_|refine aK ?_|refine eU (by rfl) (by rfl) (by (try simp (disch:=omega) only [go_sem,Int.reduceAdd,Int.reduceSub,Int.reduceMul,k4,Bool.not_false]);try rfl) ?_|refine aB ?_|refine ak ?_|refine au ?_|refine ae ?_|refine pg (by rfl) (by rfl) (by (try simp (disch:=omega) only [go_sem,Int.reduceAdd,Int.reduceSub,Int.reduceMul,k4,Bool.not_false]);try rfl) ?_|refine dh ?_|refine iG (by rfl) ?_|refine aF ?_|refine di ?_)
   refine az ?_
   rw [hnx];rfl
 ·by_cases h1:at_<w.length
  ·by_cases h2:w.getD at_.toNat 0=a.i
   ·obtain ⟨k1,k2,k3,k4⟩:=key (at_+1) (by omega) (by omega)
    rw [<- Int.add_assoc] at k2 k3 k4
    have hnx:nO w G a at_=if (a.t,at_+1)∈G then a.t*((w.length:Int)+1)+at_+1 else -1:=by simp only [nO,iy,if_neg hi,if_pos (show at_<w.length/\w.getD at_.toNat 0=a.i from ⟨h1,h2⟩),cd,decide_eq_true_eq,Int.add_assoc]
    by_cases hmem:(a.t,at_+1)∈G
    ·rw [decide_eq_true hmem] at k4
     rw [if_pos hmem] at hnx
     repeat (first|refine ah ?_|refine aS ?_|refine af ?_|refine bC ?_|refine bf ?_|refine aB ?_|refine ax ?_|refine au ?_|refine ae ?_|refine aF ?_|refine di ?_)
     refine dG bu bu (fun _ _ _=>False) ?_
     repeat (first|refine ah ?_|refine aO ?_|refine aJ ?_|refine dA (by rfl) aG (by (try simp (disch:=omega) only [go_sem,k4,Bool.not_true]);try rfl) ?_|refine dK (by rfl) aW (by (try simp (disch:=omega) only [go_sem,reduceIte,Nat.reduceEqDiff,Nat.reduceAdd,Nat.reduceMul,k4,Bool.not_true]);try rfl) aG (by (try simp (disch:=omega) only [go_sem,k4,Bool.not_true]);try rfl) aQ ?_|refine af ?_|refine ay ?_|refine bC ?_|refine aK ?_|refine eU (by rfl) (by rfl) (by (try simp (disch:=omega) only [go_sem,Int.reduceAdd,Int.reduceSub,Int.reduceMul,k4,Bool.not_true]);try rfl) ?_|refine aB ?_|refine ak ?_|refine ax ?_|refine au ?_|refine ae ?_|refine aH ?_|refine pg (by rfl) (by rfl) (by (try simp (disch:=omega) only [go_sem,Int.reduceAdd,Int.reduceSub,Int.reduceMul,k4,Bool.not_true]);try rfl) ?_|refine dh ?_|refine gI (by rfl) ?_|refine aF ?_)
     refine az ?_
     rw [hnx];rfl
    ·rw [decide_eq_false hmem] at k4
     rw [if_neg hmem] at hnx
     repeat (first|refine ah ?_|refine aS ?_|refine af ?_|refine bC ?_|refine bf ?_|refine aB ?_|refine ax ?_|refine au ?_|refine ae ?_|refine aF ?_|refine di ?_)
     refine dG bu bu (fun _ _ _=>False) ?_
     repeat (first|refine ah ?_|refine aO ?_|refine aJ ?_|refine dA (by rfl) aG (by (try simp (disch:=omega) only [go_sem,k4,Bool.not_false]);try rfl) ?_|refine dK (by rfl) aW (by (try simp (disch:=omega) only [go_sem,reduceIte,Nat.reduceEqDiff,Nat.reduceAdd,Nat.reduceMul,k4,Bool.not_false]);try rfl) aG (by (try simp (disch:=omega) only [go_sem,k4,Bool.not_false]);try rfl) aQ ?_|refine af ?_|refine ay ?_|refine bC ?_|refine aK ?_|refine eU (by rfl) (by rfl) (by (try simp (disch:=omega) only [go_sem,Int.reduceAdd,Int.reduceSub,Int.reduceMul,k4,Bool.not_false]);try rfl) ?_|refine aB ?_|refine ak ?_|refine au ?_|refine ae ?_|refine pg (by rfl) (by rfl) (by (try simp (disch:=omega) only [go_sem,Int.reduceAdd,Int.reduceSub,Int.reduceMul,k4,Bool.not_false]);try rfl) ?_|refine dh ?_|refine iG (by rfl) ?_|refine aF ?_)
     refine az ?_
     rw [hnx];rfl
   ·have hnx:nO w G a at_ = -1:=by simp only [nO,iy,if_neg hi,if_neg (show ¬ (at_<w.length/\w.getD at_.toNat 0=a.i) from fun h=>h2 h.2)];rfl
    repeat (first|refine ah ?_|refine aS ?_|refine af ?_|refine bC ?_|refine bf ?_|refine aB ?_|refine ax ?_|refine au ?_|refine ae ?_|refine aF ?_|refine di ?_)
    refine dG bu bu (fun _ _ _=>False) ?_
    repeat (first|refine ah ?_|refine aO ?_|refine cu ?_|refine aJ ?_|refine dD ?_|refine aS ?_|refine af ?_|refine ay ?_|refine bC ?_|refine aK ?_|refine aN ?_|refine aB ?_|refine ax ?_|refine au ?_|refine ae ?_|refine aH ?_|refine dh ?_|refine aF ?_)
    refine az ?_
    rw [hnx];rfl
  ·have hnx:nO w G a at_ = -1:=by simp only [nO,iy,if_neg hi,if_neg (show ¬ (at_<w.length/\w.getD at_.toNat 0=a.i) from fun h=>h1 h.1)];rfl
   repeat (first|refine ah ?_|refine aS ?_|refine af ?_|refine bC ?_|refine bf ?_|refine aB ?_|refine ax ?_|refine au ?_|refine ae ?_|refine aF ?_|refine di ?_)
   refine dG bu bu (fun _ _ _=>False) ?_
   repeat (first|refine ah ?_|refine cu ?_|refine aS ?_|refine af ?_|refine ay ?_|refine aN ?_|refine aB ?_|refine ax ?_|refine au ?_|refine ae ?_|refine aH ?_|refine dh ?_|refine aF ?_)
   refine az ?_
   rw [hnx];rfl
theorem Hq (l:List A) {i:Nat} (h:i<l.length):(recs aC l).getD (i*4+0) .dead=.int .i64 (l.getD i default).f:=mF aR l h (by omega)
theorem Hm (l:List A) {i:Nat} (h:i<l.length):(recs aC l).getD (i*4+2) .dead=.int .i64 (l.getD i default).o:=mF aR l h (by omega)
theorem IY (l:List A) {i:Nat} (h:i<l.length):(recs aC l).getD (i*4+3) .dead=.int .i64 (l.getD i default).t:=mF aR l h (by omega)
theorem KU (l:List A) {i:Nat} (h:i<l.length):(recs aC l).getD (i*4) .dead=.int .i64 (l.getD i default).f:=mF aR (j:=0) l h (by omega)
attribute [go_sem] KU Hq Hm IY
theorem jD (l:List Bool):bK (HL.bools l)=[]:=by
 induction l with
 | nil=>rfl
 | cons x l ih=>simpa [HL.bools,bK,HV.deep] using ih
theorem jP (l:List A):bK (recs aC l)=[]:=uA (g:=aC) (fun _=>rfl) l
theorem jy (fin:List Bool) (al:List A):stripL [.sl fin.length (HL.bools fin),.sl al.length (recs aC al)]=[.sl fin.length (HL.bools fin),.sl al.length (recs aC al)]:=by simp [stripL,HV.strip,HL.bools_strip,jg]
set_option maxHeartbeats 8000000 in
theorem KX (fin:List Bool) (al:List A) (hv:okF fin al=true):HT Try.prog 81 [.agg (fK fin al)] (fun r=>r=.osl 1 fin.length (fA (bn (·.f) fin.length al))):=by
 obtain ⟨h1,h2,h3⟩:=iF hv
 refine HT.of rfl abq (Nat.le_of_ble_eq_true rfl) ?_
 unfold c81
 simp only [aX,Nat.reduceAdd,fK,gX]
 repeat (first|refine ah ?_|refine aS ?_|refine af ?_|refine aB ?_|refine au ?_|refine ae ?_|refine aA ?_|refine aZ ?_|refine aF ?_|refine di ?_|refine lH dN (by rfl) (by omega) aI aI ?_)
 refine bF 0 [1,3,4] ⟨[(1,.ptr (stripL [.sl fin.length (HL.bools fin),.sl al.length (recs aC al)]) 0),(3,.ref 0 [] 1 0 fin.length),(4,.int .i64 0)],[(0,.osl 1 fin.length (fA (List.replicate fin.length [])))],1⟩ rfl ?_
 rw [jy,<- oQ (·.f)]
 refine bQ [1,3,4] (fun k:Nat=>k<=al.length)
  (fun k=>⟨[(1,.ptr [.sl fin.length (HL.bools fin),.sl al.length (recs aC al)] 0),(3,.ref 0 [] 1 0 fin.length),(4,.int .i64 k)],[(0,.osl 1 fin.length (fA (bn (·.f) fin.length (al.take k))))],1⟩)
  (fun k=>al.length - k) 0 (by omega) rfl ?_
 intro k hk
 by_cases hkl:k<al.length
 ·have ha:=fE hv (gU hkl)
  have hlen:=fJ (·.f) fin.length (al.take k)
  have hrow:((bn (·.f) fin.length (al.take k)).getD (al.getD k default).f.toNat []).length<=8192:=Nat.le_trans oz (by simp;omega)
  have hst:=nD (p:=(·.f)) (n:=fin.length) (l:=al.take k) (a:=al.getD k default) (j:=(al.getD k default).f.toNat) (by omega)
  rw [<- dE hkl] at hst
  have hro:=rq (bn (·.f) fin.length (al.take k)) (al.getD k default).f.toNat ((bn (·.f) fin.length (al.take k)).getD (al.getD k default).f.toNat []++[al.getD k default]) .dead (n:=((bn (·.f) fin.length (al.take k)).getD (al.getD k default).f.toNat []).length+1) (by simp)
  rw [hst] at hro
  repeat (first|refine ah ?_|refine dD ?_|refine af ?_|refine ay ?_|refine aB ?_|refine ak ?_|refine au ?_|refine ae ?_|refine aA ?_|refine aH ?_|refine aY ?_)
  refine iU [1,4] [3] bu bu (fun _ _ _=>False) (by simp [aV,HV.deep,bK,jD,jP]) (by simp [aV,HV.deep,bK]) ?_
  repeat (first|refine ah ?_|refine aJ ?_|refine cZ ?_|refine dA (by rfl) aG (by (try simp (disch:=omega) only [go_sem,hro]);try rfl) ?_|refine dK (by rfl) aW (by (try simp (disch:=omega) only [go_sem,reduceIte,Nat.reduceEqDiff,Nat.reduceAdd,Nat.reduceMul,hro]);try rfl) aG (by (try simp (disch:=omega) only [go_sem,hro]);try rfl) aQ ?_|refine af ?_|refine eU (by rfl) (by rfl) (by (try simp (disch:=omega) only [go_sem,Int.reduceAdd,Int.reduceSub,Int.reduceMul,hro]);try rfl) ?_|refine ae ?_|refine dH ?_|refine aY ?_|refine gB (by rfl) aG (by (try simp (disch:=omega) only [go_sem,reduceIte,Nat.reduceEqDiff,Nat.reduceAdd,Nat.reduceMul,hro]);try rfl) ?_|refine kF (by rfl) aQ aI iW kG (by rfl) kX (by rfl) kY (by (try simp (disch:=omega) only [go_sem,reduceIte,Nat.reduceEqDiff,Nat.reduceAdd,Nat.reduceMul,hro]);try rfl) aG (by (try simp (disch:=omega) only [go_sem,hro]);try rfl) aI jk ?_|refine bP ?_|refine iM dN (by rfl) aQ l9 (by (try simp (disch:=omega) only [go_sem,reduceIte,Nat.reduceEqDiff,Nat.reduceAdd,Nat.reduceMul,hro]);try omega) aW (by (try simp (disch:=omega) only [go_sem,reduceIte,Nat.reduceEqDiff,Nat.reduceAdd,Nat.reduceMul,hro]);try rfl) dN (by omega) fP aG (by (try simp (disch:=omega) only [go_sem,reduceIte,Nat.reduceEqDiff,Nat.reduceAdd,Nat.reduceMul,hro]);try rfl) aI ?_)
  exact bZ [1,3,4] (k+1) hkl (by omega) rfl
 ·obtain rfl:k=al.length:=by omega
  rw [List.take_length]
  repeat (first|refine ah ?_|refine dD ?_|refine af ?_|refine ay ?_|refine aB ?_|refine bD (by rfl) ?_|refine ax ?_|refine au ?_|refine ae ?_|refine aY ?_)
  refine az ?_
  rfl
end Go.Proofs.Ytlbdmpjnmfmnfaa
