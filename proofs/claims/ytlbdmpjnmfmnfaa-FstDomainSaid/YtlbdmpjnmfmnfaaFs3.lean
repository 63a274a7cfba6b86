import Derived.Test.YtlbdmpjnmfmnfaaHlFi
import Derived.Test.YtlbdmpjnmfmnfaaFsW
import Derived.Test.YtlbdmpjnmfmnfaaHlW
set_option linter.unusedSimpArgs false
set_option linter.unusedVariables false
set_option maxHeartbeats 8000000
section
namespace Go.HL
open Go.RowKit
def dn0:HV->HV
 | .nils=>.sl 0 []
 | v=>v
def dn1:HV->HV
 | .nils=>.sl 0 []
 | .sl n cs=>.sl n (cs.map dn0)
 | v=>v
section
variable {F:Nat->Prop} {h:Hp} {R:HV->Value->Prop}
theorem YN {vs:List HV} {rvs:List Value} {fs:List Nat} (o:OW F h R vs rvs fs):OW F h R (vs.map dn0) rvs fs:=by
 induction o with
 | nil=>exact .nil
 | @leaf R v rv r rr fs a b c d e f g _ ih =>
  have:dn0 v=v:=by cases v<;>simp [fH] at a<;>rfl
  rw [dP,this]
  exact .leaf a b c d e f g ih
 | int _ ih=>exact .int ih
 | bool _ ih=>exact .bool ih
 | str _ ih=>exact .str ih
 | nils _ ih=>exact .sl0 ih
 | nilm _ ih=>exact .nilm ih
 | rmap a b c d _ _ ih=>exact .rmap a b c d ih
 | omap a b c _ _ ih=>exact .omap a b c ih
 | oitr a _ ih=>exact .oitr a ih
 | nilp _ ih=>exact .nilp ih
 | nilf _ ih=>exact .nilf ih
 | dead _ ih=>exact .dead ih
 | sl0 _ ih=>exact .sl0 ih
 | sl a b c d e _ _ ih=>exact .sl a b c d e ih
 | osl0 _ ih=>exact .osl0 ih
 | osl a b c d e f g _ _ ih=>exact .osl a b c d e f g ih
 | ptr a b c d _ _ ih=>exact .ptr a b c d ih
 | optr a b _ _ ih=>exact .optr a b ih
 | agg a _ _ ih=>exact .agg a ih
 | tup a _ _ ih=>exact .tup a ih
 | fn a _ _ ih=>exact .fn a ih
theorem Zk {vs:List HV} {rvs:List Value} {fs:List Nat} (o:OW F h R vs rvs fs):OW F h R (vs.map dn1) rvs fs:=by
 induction o with
 | nil=>exact .nil
 | @leaf R v rv r rr fs a b c d e f g _ ih =>
  have:dn1 v=v:=by cases v<;>simp [fH] at a<;>rfl
  rw [dP,this]
  exact .leaf a b c d e f g ih
 | int _ ih=>exact .int ih
 | bool _ ih=>exact .bool ih
 | str _ ih=>exact .str ih
 | nils _ ih=>exact .sl0 ih
 | nilm _ ih=>exact .nilm ih
 | rmap a b c d _ _ ih=>exact .rmap a b c d ih
 | omap a b c _ _ ih=>exact .omap a b c ih
 | oitr a _ ih=>exact .oitr a ih
 | nilp _ ih=>exact .nilp ih
 | nilf _ ih=>exact .nilf ih
 | dead _ ih=>exact .dead ih
 | sl0 _ ih=>exact .sl0 ih
 | sl a b c d e _ _ ih=>exact .sl a b (by rw [List.length_map];exact c) d (YN e) ih
 | osl0 _ ih=>exact .osl0 ih
 | osl a b c d e f g _ _ ih=>exact .osl a b c d e f g ih
 | ptr a b c d _ _ ih=>exact .ptr a b c d ih
 | optr a b _ _ ih=>exact .optr a b ih
 | agg a _ _ ih=>exact .agg a ih
 | tup a _ _ ih=>exact .tup a ih
 | fn a _ _ ih=>exact .fn a ih
end
theorem HT.arg {P:Program} {f:FuncId} {args args':List HV} {K:HV->Prop} (hw:∀ (F:Nat->Prop) (h:Hp) (rvs:List Value),OW F h dG args' rvs []->OW F h dG args rvs []) (h:HT P f args K):HT P f args' K :=
 ⟨h.1,fun w rargs F hF ho=>h.2 w rargs F hF (hw _ _ _ ho)⟩
theorem Zr {P:Program} {C:CallSpec} {all r:List HOper} {i:Nat} {k:List HI} {rs:List Nat} {K:HV->Prop} {sl sl' st st':List (Nat×HV)} {nx:Nat} {x:HX} {t:Nat} {v:HV} {cs0 cs:List HV} {us:List Upd} {sd:Prop} {sz fr:Nat} [ok:Ok C k] (hf:nx+stride*i=fr) (hv:ev sl x=v) (hcs:cellsOf v=cs0) (ht:fQ (fun j=>au j st) cs0=(cs,us,sd)) (hs:sd) (hz:cs.length=sz) (hu:tV sl st us=(sl',st'))
  (h:G P C all r (i+1) k rs K ((t,.pref fr [] 0)::sl') ((fr,.optr cs)::st') nx):G P C all (⟨some t,.newv sz x,none⟩::r) i k rs K sl st nx:=by
 subst hf
 refine dM ok.mono ok.plain (v:=.pref (nx+stride*i) [] 0) (us:=us++[.put (nx+stride*i) (.optr cs)]) (side:=sd/\cs.length=sz) rfl (by rw [HOp.map,hv]) ?_ ⟨hs,hz⟩ (by rw [Bd,hu];rfl) h
 subst hcs
 simp only [ah]
 rw [ht]
end Go.HL
end
section
namespace Go.Proofs.Ytlbdmpjnmfmnfaa
open Go.RowKit Go.HL Go.FS
def cd (m:Nat) (x:Nd):Int:=x.1*((m:Int)+1)+x.2
section
variable {n:Nat} {w:List Int} {x y:Nd}
end
structure GB (n:Nat) (w:List Int) (G:List Nd) (gb:List Bool):Prop where
 len:gb.length=n*(w.length+1)
 at_:∀x,U8 n w x->gb.getD (cd w.length x).toNat false=decide (x∈G)
theorem kW (l:List Bool):aQ (HL.bools l)=[]:=by
 induction l with
 | nil=>rfl
 | cons x l ih=>simpa [HL.bools,aQ,HV.deep] using ih
theorem Bf (l:List A):aQ (recs aC l)=[]:=D9 (g:=aC) (fun _=>rfl) l
theorem pM (fin:List Bool) (al:List A):stripL [.sl fin.length (HL.bools fin),.sl al.length (recs aC al)]=[.sl fin.length (HL.bools fin),.sl al.length (recs aC al)]:=by simp [stripL,HV.strip,HL.bools_strip,jO]
theorem Jh (fin:List Bool) (al:List A) (hf:fin.length<=9223372036854775807) (ha:al.length<=9223372036854775807):HT Try.prog 27 [.agg (dR fin al)] (fun r=>r=.bool (okF fin al)):=by
 refine HT.of rfl afd (bF rfl) ?_
 unfold c27
 simp only [ay,Nat.reduceAdd,dR,fU]
 by_cases hb:1<=fin.length/\fin.length<=2048/\al.length<=8192
 ·obtain ⟨h1,h2,h3⟩:=hb
  have hd:okF fin al=al.all (okA fin.length):=by simp [okF,h1,h2,h3]
  refine zF ⟨?_⟩
  refine aF [1,3,4] (fun k:Nat=>k<=al.length/\(al.take k).all (okA fin.length)=true)
   (fun k=>⟨[(1,.pref 0 [] 0),(3,.int .i64 fin.length),(4,.int .i64 k)],[(0,.optr [.sl fin.length (HL.bools fin),.sl al.length (recs aC al)])],1⟩)
   (fun k=>al.length - k) 0 ⟨by omega,by simp⟩ rfl ?_
  rintro k ⟨hk,hall⟩
  by_cases hkl:k<al.length
  ·have hst:=NK (n:=fin.length) hkl
   rw [hall,uj] at hst
   by_cases b0:(al.getD k default).f<0
   ·have hbad:okA fin.length (al.getD k default)=false:=by simp only [okA,decide_eq_false_iff_not];omega
    refine zF ⟨?_⟩
    refine ae ?_
    simp [bG,hd,gK hkl hbad]
   by_cases b1:(fin.length:Int)<=(al.getD k default).f
   ·have hbad:okA fin.length (al.getD k default)=false:=by simp only [okA,decide_eq_false_iff_not];omega
    refine zF ⟨?_⟩
    refine ae ?_
    simp [bG,hd,gK hkl hbad]
   by_cases b2:(al.getD k default).t<0
   ·have hbad:okA fin.length (al.getD k default)=false:=by simp only [okA,decide_eq_false_iff_not];omega
    refine zF ⟨?_⟩
    refine ae ?_
    simp [bG,hd,gK hkl hbad]
   by_cases b3:(fin.length:Int)<=(al.getD k default).t
   ·have hbad:okA fin.length (al.getD k default)=false:=by simp only [okA,decide_eq_false_iff_not];omega
    refine zF ⟨?_⟩
    refine ae ?_
    simp [bG,hd,gK hkl hbad]
   by_cases b4:(al.getD k default).i < -1
   ·have hbad:okA fin.length (al.getD k default)=false:=by simp only [okA,decide_eq_false_iff_not];omega
    refine zF ⟨?_⟩
    refine ae ?_
    simp [bG,hd,gK hkl hbad]
   by_cases b5:63<(al.getD k default).i
   ·have hbad:okA fin.length (al.getD k default)=false:=by simp only [okA,decide_eq_false_iff_not];omega
    refine zF ⟨?_⟩
    refine ae ?_
    simp [bG,hd,gK hkl hbad]
   by_cases b6:(al.getD k default).o < -1
   ·have hbad:okA fin.length (al.getD k default)=false:=by simp only [okA,decide_eq_false_iff_not];omega
    refine zF ⟨?_⟩
    refine ae ?_
    simp [bG,hd,gK hkl hbad]
   by_cases b7:63<(al.getD k default).o
   ·have hbad:okA fin.length (al.getD k default)=false:=by simp only [okA,decide_eq_false_iff_not];omega
    refine zF ⟨?_⟩
    refine ae ?_
    simp [bG,hd,gK hkl hbad]
   refine zF ⟨?_⟩
   exact aV [1,3,4] (k+1) ⟨hkl,by rw [hst];simp only [okA,decide_eq_true_eq];omega⟩ (by omega) rfl
  ·obtain rfl:k=al.length:=by omega
   rw [ig] at hall
   refine zF ⟨?_⟩
   refine ae ?_
   simp [bG,hd,hall]
 ·have hd:okF fin al=false:=by simp only [okF,decide_eq_false hb,Bool.false_and]
  by_cases h1:1<=fin.length
  ·by_cases h2:fin.length<=2048
   ·have h3:¬ al.length<=8192:=fun h=>hb ⟨h1,h2,h⟩
    refine zF ⟨?_⟩
    refine ae ?_
    simp [bG,hd]
   ·refine zF ⟨?_⟩
    refine ae ?_
    simp [bG,hd]
  ·refine zF ⟨?_⟩
   refine ae ?_
   simp [bG,hd]
inductive Rc (al:List A) (p q:A->Int) (S:Nat->Prop):Nat->Prop
 | on {i:Nat}:S i->Rc al p q S i
 | step {a:A}:a∈al->Rc al p q S (p a).toNat->Rc al p q S (q a).toNat
def cf (rb:List Bool):Nat:=(rb.filter fun b=>!b).length
theorem Kv:∀ (rb:List Bool) (i:Nat),i<rb.length->rb.getD i false=false->cf (rb.set i true)+1=cf rb
 | [],i,h,_=>by simp at h
 | b::rb,0,_,h=>by
  simp only [List.getD_cons_zero] at h
  subst h
  simp [cf]
 | b::rb,i+1,h,he=>by
  have:=Kv rb i (by simpa using h) (by simpa using he)
  unfold cf at this ⊢
  cases b<;>simp_all
section
variable {al:List A} {p q:A->Int} {S:Nat->Prop}
structure MI (al:List A) (p q:A->Int) (S:Nat->Prop) (n:Nat) (rb:List Bool):Prop where
 len:rb.length=n
 sound:∀i,rb.getD i false=true->Rc al p q S i
 base:∀i,i<n->S i->rb.getD i false=true
structure MJ (al:List A) (p q:A->Int) (S:Nat->Prop) (n:Nat) (rb0:List Bool) (k:Nat) (ag:Bool) (rb:List Bool):Prop where
 mi:MI al p q S n rb
 no:ag=false->rb=rb0/\∀a∈al.take k,rb.getD (p a).toNat false=true->rb.getD (q a).toNat false=true
 less:cf rb+(if ag then 1 else 0)<=cf rb0
theorem MJ.start {n:Nat} {rb:List Bool} (h:MI al p q S n rb):MJ al p q S n rb 0 false rb:=⟨h,fun _=>⟨rfl,by simp⟩,by simp⟩
theorem MJ.skip {n k:Nat} {rb0 rb:List Bool} {ag:Bool} (h:MJ al p q S n rb0 k ag rb) (hk:k<al.length) (hs:rb.getD (p (al.getD k default)).toNat false=true->rb.getD (q (al.getD k default)).toNat false=true):MJ al p q S n rb0 (k+1) ag rb:=by
 refine ⟨h.mi,fun ha=>⟨(h.no ha).1,fun a hm=>?_⟩,h.less⟩
 rw [bY hk] at hm
 rcases zl002.1 hm with hm|hm
 ·exact (h.no ha).2 a hm
 ·simp only [zl009] at hm;subst hm;exact hs
theorem MJ.add {n k:Nat} {rb0 rb:List Bool} {ag:Bool} (h:MJ al p q S n rb0 k ag rb) (hk:k<al.length) (hq:(q (al.getD k default)).toNat<n) (h1:rb.getD (p (al.getD k default)).toNat false=true) (h2:rb.getD (q (al.getD k default)).toNat false=false):MJ al p q S n rb0 (k+1) true (rb.set (q (al.getD k default)).toNat true):=by
 have hc:=Kv rb _ (by rw [h.mi.len];exact hq) h2
 refine ⟨⟨by rw [List.length_set];exact h.mi.len,fun i hi=>?_,fun i hi hS=>?_⟩,fun ha=>absurd ha (by decide),by
  have:=h.less
  simp only [if_true]
  split at this<;>omega⟩
 ·rw [bf,CW] at hi
  by_cases e:(q (al.getD k default)).toNat=i
  ·rw [<- e]
   exact .step (lq hk) (h.mi.sound _ h1)
  ·rw [if_neg e,<- bf] at hi
   exact h.mi.sound i hi
 ·rw [bf,CW]
  by_cases e:(q (al.getD k default)).toNat=i
  ·rw [if_pos e,if_pos (by rw [h.mi.len];exact hq)];rfl
  ·rw [if_neg e,<- bf];exact h.mi.base i hi hS
theorem MJ.done {n:Nat} {rb0 rb:List Bool} (h:MJ al p q S n rb0 al.length false rb) (hS:∀i,S i->i<n) (i:Nat):rb.getD i false=true <-> Rc al p q S i:=by
 refine ⟨h.mi.sound i,fun hr=>?_⟩
 induction hr with
 | on hs=>exact h.mi.base _ (hS _ hs) hs
 | step ha _ ih=>exact (h.no rfl).2 _ (by rw [ig];exact ha) ih
end
attribute [go_sem] List.length_replicate
end Go.Proofs.Ytlbdmpjnmfmnfaa
end
