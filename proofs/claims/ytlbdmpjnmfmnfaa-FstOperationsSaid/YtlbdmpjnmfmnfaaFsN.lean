import Derived.Test.YtlbdmpjnmfmnfaaHlFi
import Derived.Test.YtlbdmpjnmfmnfaaFsW
import Derived.Test.YtlbdmpjnmfmnfaaFsB
set_option linter.unusedSimpArgs false
set_option linter.unusedVariables false
set_option maxHeartbeats 8000000
section
namespace Go.HL
open Go.RowKit
def dn0:HV->HV
 | .nils=>.sl 0 []
 | v=>v
def dn1:HV->HV
 | .nils=>.sl 0 []
 | .sl n cs=>.sl n (cs.map dn0)
 | v=>v
section
variable {F:Nat->Prop} {h:Hp} {R:HV->Value->Prop}
theorem TF {vs:List HV} {rvs:List Value} {fs:List Nat} (o:OW F h R vs rvs fs):OW F h R (vs.map dn0) rvs fs:=by
 induction o with
 | nil=>exact .nil
 | @leaf R v rv r rr fs a b c d e f g _ ih =>
  have:dn0 v=v:=by cases v<;>simp [gJ] at a<;>rfl
  rw [dV,this]
  exact .leaf a b c d e f g ih
 | int _ ih=>exact .int ih
 | bool _ ih=>exact .bool ih
 | str _ ih=>exact .str ih
 | nils _ ih=>exact .sl0 ih
 | nilm _ ih=>exact .nilm ih
 | rmap a b c d _ _ ih=>exact .rmap a b c d ih
 | omap a b c _ _ ih=>exact .omap a b c ih
 | oitr a _ ih=>exact .oitr a ih
 | nilp _ ih=>exact .nilp ih
 | nilf _ ih=>exact .nilf ih
 | dead _ ih=>exact .dead ih
 | sl0 _ ih=>exact .sl0 ih
 | sl a b c d e _ _ ih=>exact .sl a b c d e ih
 | osl0 _ ih=>exact .osl0 ih
 | osl a b c d e f g _ _ ih=>exact .osl a b c d e f g ih
 | ptr a b c d _ _ ih=>exact .ptr a b c d ih
 | optr a b _ _ ih=>exact .optr a b ih
 | agg a _ _ ih=>exact .agg a ih
 | tup a _ _ ih=>exact .tup a ih
 | fn a _ _ ih=>exact .fn a ih
theorem aai {vs:List HV} {rvs:List Value} {fs:List Nat} (o:OW F h R vs rvs fs):OW F h R (vs.map dn1) rvs fs:=by
 induction o with
 | nil=>exact .nil
 | @leaf R v rv r rr fs a b c d e f g _ ih =>
  have:dn1 v=v:=by cases v<;>simp [gJ] at a<;>rfl
  rw [dV,this]
  exact .leaf a b c d e f g ih
 | int _ ih=>exact .int ih
 | bool _ ih=>exact .bool ih
 | str _ ih=>exact .str ih
 | nils _ ih=>exact .sl0 ih
 | nilm _ ih=>exact .nilm ih
 | rmap a b c d _ _ ih=>exact .rmap a b c d ih
 | omap a b c _ _ ih=>exact .omap a b c ih
 | oitr a _ ih=>exact .oitr a ih
 | nilp _ ih=>exact .nilp ih
 | nilf _ ih=>exact .nilf ih
 | dead _ ih=>exact .dead ih
 | sl0 _ ih=>exact .sl0 ih
 | sl a b c d e _ _ ih=>exact .sl a b (by rw [List.length_map];exact c) d (TF e) ih
 | osl0 _ ih=>exact .osl0 ih
 | osl a b c d e f g _ _ ih=>exact .osl a b c d e f g ih
 | ptr a b c d _ _ ih=>exact .ptr a b c d ih
 | optr a b _ _ ih=>exact .optr a b ih
 | agg a _ _ ih=>exact .agg a ih
 | tup a _ _ ih=>exact .tup a ih
 | fn a _ _ ih=>exact .fn a ih
end
theorem HT.arg {P:Program} {f:FuncId} {args args':List HV} {K:HV->Prop} (hw:∀ (F:Nat->Prop) (h:Hp) (rvs:List Value),OW F h dG args' rvs []->OW F h dG args rvs []) (h:HT P f args K):HT P f args' K :=
 ⟨h.1,fun w rargs F hF ho=>h.2 w rargs F hF (hw _ _ _ ho)⟩
theorem ZG {P:Program} {C:CallSpec} {all r:List af} {i:Nat} {k:List HI} {rs:List Nat} {K:HV->Prop} {sl sl' st st':List (Nat×HV)} {nx:Nat} {x:HX} {t:Nat} {v:HV} {cs0 cs:List HV} {us:List Upd} {sd:Prop} {sz fr:Nat} [ok:Ok C k] (hf:nx+stride*i=fr) (hv:ev sl x=v) (hcs:cellsOf v=cs0) (ht:iC (fun j=>ax j st) cs0=(cs,us,sd)) (hs:sd) (hz:cs.length=sz) (hu:uT sl st us=(sl',st'))
  (h:G P C all r (i+1) k rs K ((t,.pref fr [] 0)::sl') ((fr,.optr cs)::st') nx):G P C all (⟨some t,.newv sz x,none⟩::r) i k rs K sl st nx:=by
 subst hf
 refine eU ok.mono ok.plain (v:=.pref (nx+stride*i) [] 0) (us:=us++[.put (nx+stride*i) (.optr cs)]) (side:=sd/\cs.length=sz) rfl (by rw [HOp.map,hv]) ?_ ⟨hs,hz⟩ (by rw [Ba,hu];rfl) h
 subst hcs
 simp only [ak]
 rw [ht]
end Go.HL
end
section
namespace Go.Proofs.Ytlbdmpjnmfmnfaa
open Go.RowKit Go.HL Go.FS
def cd (m:Nat) (x:Nd):Int:=x.1*((m:Int)+1)+x.2
section
variable {n:Nat} {w:List Int} {x y:Nd}
theorem J9 (h:Ah n w x):0<=x.1*((w.length:Int)+1)/\x.1*((w.length:Int)+1)+((w.length:Int)+1)<=(n:Int)*((w.length:Int)+1):=by
 obtain ⟨h1,h2,h3,h4⟩:=h
 refine ⟨Int.mul_nonneg h1 (by omega),?_⟩
 have:(x.1+1)*((w.length:Int)+1)<=(n:Int)*((w.length:Int)+1):=Int.mul_le_mul_of_nonneg_right (by omega) (by omega)
 rw [Int.add_mul] at this
 omega
theorem uQ (h:Ah n w x):0<=cd w.length x/\(cd w.length x).toNat<n*(w.length+1):=by
 have h1:=J9 h
 obtain ⟨_,_,h3,h4⟩:=h
 unfold cd
 have e:((n*(w.length+1):Nat):Int)=(n:Int)*((w.length:Int)+1):=by push_cast;rfl
 rw [<- e] at h1
 generalize n*(w.length+1)=N at h1 ⊢
 generalize x.1*((w.length:Int)+1)=p at h1 ⊢
 omega
theorem DN (h:Ah n w x):(cd w.length x).tdiv ((w.length:Int)+1)=x.1:=by
 obtain ⟨h1,h2,h3,h4⟩:=h
 unfold cd
 rw [GZ (by have:=Int.mul_nonneg h1 (show (0:Int)<=(w.length:Int)+1 by omega);omega),Int.add_comm,Int.add_mul_ediv_right _ _ (by omega),Int.ediv_eq_zero_of_lt h3 (by omega)]
 omega
theorem DK (h:Ah n w x):(cd w.length x).tmod ((w.length:Int)+1)=x.2:=by
 obtain ⟨h1,h2,h3,h4⟩:=h
 unfold cd
 rw [Int.tmod_eq_emod_of_nonneg (by have:=Int.mul_nonneg h1 (show (0:Int)<=(w.length:Int)+1 by omega);omega),Int.add_comm,Int.add_mul_emod_self_right,Int.emod_eq_of_lt h3 (by omega)]
theorem abO (h:Ah n w x) (h':Ah n w y) (e:cd w.length x=cd w.length y):x=y:=by
 have h1:=DN h
 have h2:=DK h
 rw [e,DN h'] at h1
 rw [e,DK h'] at h2
 exact Prod.ext h1.symm h2.symm
end
structure GB (n:Nat) (w:List Int) (G:List Nd) (gb:List Bool):Prop where
 len:gb.length=n*(w.length+1)
 at_:∀x,Ah n w x->gb.getD (cd w.length x).toNat false=decide (x∈G)
def vS (w:List Int) (G:List Nd) (a:A) (at_:Int):Int:=if (ja w G a at_).2 then cd w.length (ja w G a at_).1 else -1
def Ip (w:List Int) (ll:List (List A)) (gb:List Bool):List HV:=[.sl w.length (HL.ints w),.sl ll.length (bF ll),.sl gb.length (HL.bools gb)]
theorem qm {n:Nat} {w:List Int} (hn:n<=2048) (hw:w.length<=1024):n*(w.length+1)<=2099200:=jc (tK hn (show w.length+1<=1025 by omega)) (by decide)
theorem Ot (n:Nat) (w:List Int) (ll:List (List A)) (G:List Nd) (gb:List Bool) (a:A) (at_:Int) (h0:0<=at_) (hw:w.length<=1024) (hat:at_<=w.length) (hn:n<=2048) (ha:0<=a.t/\a.t<n) (hb:GB n w G gb):HT Try.prog 102 [.agg (Ip w ll gb),.agg (aC a),.int .i64 at_] (fun r=>r=.int .i64 (vS w G a at_)):=by
 refine HT.of rfl adO (aZ rfl) ?_
 unfold aeh
 simp only [aA,Nat.reduceAdd,Ip,aC]
 have hgl:=hb.len
 have hgb:=qm (n:=n) (w:=w) hn hw
 have key:∀z:Int,0<=z->z<=w.length->0<=a.t*((w.length:Int)+1)/\a.t*((w.length:Int)+1)+z<=3000000/\(a.t*((w.length:Int)+1)+z).toNat<gb.length/\gb.getD (a.t*((w.length:Int)+1)+z).toNat false=decide ((a.t,z)∈G):=fun z hz0 hz1=>by
  have hin:Ah n w (a.t,z):=⟨ha.1,ha.2,hz0,hz1⟩
  have h1:=J9 hin
  have h2:=uQ hin
  have h3:=hb.at_ _ hin
  unfold cd at h2 h3
  simp only at h1 h2 h3
  rw [hgl]
  refine ⟨h1.1,?_,h2.2,h3⟩
  generalize n*(w.length+1)=N at h2 hgb
  generalize a.t*((w.length:Int)+1)=p at h2 ⊢
  omega
 by_cases hi:a.i = -1
 ·obtain ⟨k1,k2,k3,k4⟩:=key at_ h0 hat
  have hnx:vS w G a at_=if (a.t,at_)∈G then a.t*((w.length:Int)+1)+at_ else -1:=by simp only [vS,ja,if_pos hi,cd,decide_eq_true_eq]
  by_cases hmem:(a.t,at_)∈G
  ·rw [decide_eq_true hmem] at k4
   rw [if_pos hmem] at hnx
   refine eH (zA @k4 @Bool.not_true) ⟨?_⟩
   refine ae ?_
   rw [hnx];rfl
  ·rw [decide_eq_false hmem] at k4
   rw [if_neg hmem] at hnx
   refine eH (zA @k4 @Bool.not_false) ⟨?_⟩
   refine ae ?_
   rw [hnx];rfl
 ·by_cases h1:at_<w.length
  ·by_cases h2:w.getD at_.toNat 0=a.i
   ·obtain ⟨k1,k2,k3,k4⟩:=key (at_+1) (by omega) (by omega)
    rw [<- Int.add_assoc] at k2 k3 k4
    have hnx:vS w G a at_=if (a.t,at_+1)∈G then a.t*((w.length:Int)+1)+at_+1 else -1:=by simp only [vS,ja,if_neg hi,if_pos (show at_<w.length/\w.getD at_.toNat 0=a.i from ⟨h1,h2⟩),cd,decide_eq_true_eq,Int.add_assoc]
    by_cases hmem:(a.t,at_+1)∈G
    ·rw [decide_eq_true hmem] at k4
     rw [if_pos hmem] at hnx
     refine zF ⟨?_⟩
     refine bG ah ah (fun _ _ _=>False) ?_
     refine eH (zA @k4 @Bool.not_true) ⟨?_⟩
     refine ae ?_
     rw [hnx];rfl
    ·rw [decide_eq_false hmem] at k4
     rw [if_neg hmem] at hnx
     refine zF ⟨?_⟩
     refine bG ah ah (fun _ _ _=>False) ?_
     refine eH (zA @k4 @Bool.not_false) ⟨?_⟩
     refine ae ?_
     rw [hnx];rfl
   ·have hnx:vS w G a at_ = -1:=by simp only [vS,ja,if_neg hi,if_neg (show ¬ (at_<w.length/\w.getD at_.toNat 0=a.i) from fun h=>h2 h.2)];rfl
    refine zF ⟨?_⟩
    refine bG ah ah (fun _ _ _=>False) ?_
    refine zF ⟨?_⟩
    refine ae ?_
    rw [hnx];rfl
  ·have hnx:vS w G a at_ = -1:=by simp only [vS,ja,if_neg hi,if_neg (show ¬ (at_<w.length/\w.getD at_.toNat 0=a.i) from fun h=>h1 h.1)];rfl
   refine zF ⟨?_⟩
   refine bG ah ah (fun _ _ _=>False) ?_
   refine zF ⟨?_⟩
   refine ae ?_
   rw [hnx];rfl
theorem VF (l:List A) {i:Nat} (h:i<l.length):(recs aC l).getD (i*4+0) .dead=.int .i64 (l.getD i default).f:=oZ aR l h (by omega)
theorem Vx (l:List A) {i:Nat} (h:i<l.length):(recs aC l).getD (i*4+1) .dead=.int .i64 (l.getD i default).i:=oZ aR l h (by omega)
theorem Vy (l:List A) {i:Nat} (h:i<l.length):(recs aC l).getD (i*4+2) .dead=.int .i64 (l.getD i default).o:=oZ aR l h (by omega)
theorem VL (l:List A) {i:Nat} (h:i<l.length):(recs aC l).getD (i*4+3) .dead=.int .i64 (l.getD i default).t:=oZ aR l h (by omega)
theorem VT (l:List A) {i:Nat} (h:i<l.length):(recs aC l).getD (i*4) .dead=.int .i64 (l.getD i default).f:=oZ aR (j:=0) l h (by omega)
attribute [go_sem] VT VF Vx Vy VL
theorem bJ (l:List Bool):aO (HL.bools l)=[]:=by
 induction l with
 | nil=>rfl
 | cons x l ih=>simpa [HL.bools,aO,HV.deep] using ih
theorem bP (l:List A):aO (recs aC l)=[]:=DW (g:=aC) (fun _=>rfl) l
theorem gu (fin:List Bool) (al:List A):stripL [.sl fin.length (HL.bools fin),.sl al.length (recs aC al)]=[.sl fin.length (HL.bools fin),.sl al.length (recs aC al)]:=by simp [stripL,HV.strip,HL.bools_strip,gQ]
theorem FQ (fin:List Bool) (al:List A) (hv:okF fin al=true):HT Try.prog 81 [.agg (dE fin al)] (fun r=>r=.osl 1 fin.length (dw (aG (·.f) fin.length al))):=by
 obtain ⟨h1,h2,h3⟩:=bY hv
 refine HT.of rfl af4 (aZ rfl) ?_
 unfold c81
 simp only [aA,Nat.reduceAdd,dE,fB]
 refine zF ⟨?_⟩
 refine az 0 [1,3,4] ⟨[(1,.ptr (stripL [.sl fin.length (HL.bools fin),.sl al.length (recs aC al)]) 0),(3,.ref 0 [] 1 0 fin.length),(4,.int .i64 0)],[(0,.osl 1 fin.length (dw (List.replicate fin.length [])))],1⟩ rfl ?_
 rw [gu,<- xe (·.f)]
 refine aI [1,3,4] (fun k:Nat=>k<=al.length)
  (fun k=>⟨[(1,.ptr [.sl fin.length (HL.bools fin),.sl al.length (recs aC al)] 0),(3,.ref 0 [] 1 0 fin.length),(4,.int .i64 k)],[(0,.osl 1 fin.length (dw (aG (·.f) fin.length (al.take k))))],1⟩)
  (fun k=>al.length - k) 0 (by omega) rfl ?_
 intro k hk
 by_cases hkl:k<al.length
 ·have ha:=cu hv (fJ hkl)
  have hlen:=dD (·.f) fin.length (al.take k)
  have hrow:((aG (·.f) fin.length (al.take k)).getD (al.getD k default).f.toNat []).length<=8192:=jc wG (by simp;omega)
  have hst:=uq (p:=(·.f)) (n:=fin.length) (l:=al.take k) (a:=al.getD k default) (j:=(al.getD k default).f.toNat) (by omega)
  rw [<- bK hkl] at hst
  have hro:=zn (aG (·.f) fin.length (al.take k)) (al.getD k default).f.toNat ((aG (·.f) fin.length (al.take k)).getD (al.getD k default).f.toNat []++[al.getD k default]) .dead (n:=((aG (·.f) fin.length (al.take k)).getD (al.getD k default).f.toNat []).length+1) (by simp)
  rw [hst] at hro
  refine zF ⟨?_⟩
  refine iW [1,4] [3] ah ah (fun _ _ _=>False) (by simp [ax,HV.deep,aO,bJ,bP]) (by simp [ax,HV.deep,aO]) ?_
  refine eH @hro ⟨?_⟩
  exact aP [1,3,4] (k+1) hkl (by omega) rfl
 ·obtain rfl:k=al.length:=by omega
  rw [fK]
  refine zF ⟨?_⟩
  refine ae ?_
  rfl
end Go.Proofs.Ytlbdmpjnmfmnfaa
end
