import Derived.Test.YtlbdmpjnmfmnfaaFs3
import Derived.Test.YtlbdmpjnmfmnfaaFsN
set_option linter.unusedSimpArgs false
set_option linter.unusedVariables false
namespace Go.Proofs.Ytlbdmpjnmfmnfaa
open Go.RowKit Go.HL Go.FS
def cnt (k:Nat->Bool) (i:Nat):Nat:=((List.range i).filter k).length
def Dp (k:Nat->Bool) (i:Nat):Int:=if k i then cnt k i else -1
def kw (k:Nat->Bool) (n i:Nat):List Int:=(List.range n).map fun j=>if j<i then Dp k j else 0
def gZ (k:Nat->Bool) (fin:List Bool) (i:Nat):List Bool:=((List.range i).filter k).map fun j=>fin.getD j false
def jF (k:Nat->Bool) (l:List A):List A:=l.filterMap fun a=>if k a.f.toNat&&k a.t.toNat then some ⟨cnt k a.f.toNat,a.i,a.o,cnt k a.t.toNat⟩ else none
section
variable {k:Nat->Bool} {n i:Nat} {fin:List Bool}
theorem sO:(kw k n i).length=n:=by simp [kw]
theorem y5:kw k n 0=List.replicate n 0:=by
 apply List.ext_getElem?
 intro j
 simp only [kw,List.getElem?_map,List.getElem?_range,List.getElem?_replicate]
 split<;>simp_all
theorem y8 (h:i<n):(kw k n i).set i (Dp k i)=kw k n (i+1):=by
 apply List.ext_getElem?
 intro j
 rw [List.getElem?_set]
 by_cases hj:j<n
 ·by_cases e:i=j
  ·subst e;simp [kw,hj]
  ·have h2:(j<i)=(j<i+1):=by apply propext;omega
   simp [kw,hj,e,h2]
 ·have:¬ i=j:=by omega
  simp [kw,hj,this]
theorem sZ (h:i<n):(kw k n n).getD i 0=Dp k i:=by simp [kw,h]
theorem kz:(gZ k fin i).length=cnt k i:=by simp [gZ,cnt]
theorem Cb (h:k i=true):gZ k fin (i+1)=gZ k fin i++[fin.getD i false]:=by simp [gZ,List.range_succ,h]
theorem vJ (h:k i=false):gZ k fin (i+1)=gZ k fin i:=by simp [gZ,List.range_succ,h]
theorem cnt_le:cnt k i<=i:=by
 have:=List.length_filter_le k (List.range i)
 simpa [cnt] using this
theorem yu {l:List A} {j:Nat} (h:j<l.length):jF k (l.take (j+1))=jF k (l.take j)++(if k (l.getD j default).f.toNat&&k (l.getD j default).t.toNat then [⟨cnt k (l.getD j default).f.toNat,(l.getD j default).i,(l.getD j default).o,cnt k (l.getD j default).t.toNat⟩] else []):=by
 unfold jF
 rw [dA h,List.filterMap_append]
 congr 1
 generalize l.getD j default=a
 by_cases hk:(k a.f.toNat&&k a.t.toNat)=true
 ·simp only [List.filterMap_cons,List.filterMap_nil,if_pos hk]
 ·simp only [List.filterMap_cons,List.filterMap_nil,if_neg hk]
theorem tJ (l:List A):(jF k l).length<=l.length:=List.length_filterMap_le _ _
end
open Classical in
noncomputable def fQ (fin:List Bool) (al:List A) (i:Nat):Bool:=decide (Rc al (·.f) (·.t) (·=0) i/\Rc al (·.t) (·.f) (fun j=>fin.getD j false=true) i)
theorem kpF_iff {fin:List Bool} {al:List A} {i:Nat}:fQ fin al i=true <-> Rc al (·.f) (·.t) (·=0) i/\Rc al (·.t) (·.f) (fun j=>fin.getD j false=true) i:=by simp [fQ]
open Classical in
noncomputable def trimF (fin:List Bool) (al:List A):List Bool×List A :=
 if okF fin al=true then
  if Rc al (·.t) (·.f) (fun j=>fin.getD j false=true) 0 then (gZ (fQ fin al) fin fin.length,jF (fQ fin al) al) else ([false],[])
 else ([],[])
set_option maxHeartbeats 8000000 in
theorem Dc (fin:List Bool) (al:List A) (hf:fin.length<=9223372036854775807) (ha:al.length<=9223372036854775807):HT Try.prog 13 [.agg (fA fin al)] (fun r=>r=.agg (fA (trimF fin al).1 (trimF fin al).2)):=by
 refine HT.ofC rfl ZE [2] rfl (Nat.le_of_ble_eq_true rfl) ?_
 unfold c13
 have hvd:=ul fin al hf ha
 have hrd:=ER fin al
 have hld:=ED fin al
 simp only [aW,Nat.reduceAdd]
 simp only [fA,iw] at hvd hrd hld ⊢
 repeat (first|refine af ?_|refine au ?_|refine ae ?_|refine fZ ?_|refine dD ?_|refine bG dS ?_)
 refine dG bK dh (hvd) ?_
 rintro _ rfl
 by_cases hv:okF fin al=true
 ·rw [hv]
  refine ⟨bP,_,_,_,_,_,gU,(by decide),bJ,?_⟩
  obtain ⟨h1,h2,h3⟩:=jf hv
  repeat (first|refine af ?_|refine ax ?_|refine au ?_|refine ae ?_|refine aF ?_|refine iJ (by rfl) ?_|refine fZ ?_)
  refine dG bK dh (hrd hv) ?_
  rintro _ ⟨rb,rfl,hrl,hrc⟩
  refine ⟨bP,_,_,_,_,_,gU,(by decide),bJ,?_⟩
  repeat (first|refine ah ?_|refine af ?_|refine au ?_|refine ae ?_|refine fZ ?_)
  refine dG bK dh (hld hv) ?_
  rintro _ ⟨lb,rfl,hll,hlc⟩
  refine ⟨bP,_,_,_,_,_,gU,(by decide),bJ,?_⟩
  have hkp:∀i,(rb.getD i false&&lb.getD i false)=fQ fin al i:=fun i=>by
   rw [Bool.eq_iff_iff,Bool.and_eq_true,kpF_iff,hrc,hlc]
  cases hb0:lb.getD 0 false with
  | false =>
   have ht:trimF fin al=([false],[]):=by
    unfold trimF
    rw [if_pos hv,if_neg (fun h=>by rw [(hlc 0).2 h] at hb0;cases hb0)]
   repeat (first|refine ah ?_|refine dC ?_|refine dU (by rfl) bn (by (try simp (disch:=omega) only [go_sem,reduceIte,Nat.reduceEqDiff,Nat.reduceAdd,Nat.reduceMul,hb0,Bool.not_false]);try rfl) aG (by (try simp (disch:=omega) only [go_sem,hb0,Bool.not_false]);try rfl) aJ ?_|refine af ?_|refine ak ?_|refine au ?_|refine ae ?_|refine je (by rfl) ?_|refine kF (by rfl) aJ aK jy kK (by rfl) kP (by rfl) kN (by (try simp (disch:=omega) only [go_sem,reduceIte,Nat.reduceEqDiff,Nat.reduceAdd,Nat.reduceMul,hb0,Bool.not_false]);try rfl) aG (by (try simp (disch:=omega) only [go_sem,hb0,Bool.not_false]);try rfl) aK jc ?_|refine bU ?_|refine bZ ?_)
   refine fF 16 [1,4] [2] (⟨[(2,.pref 0 [] 0)],[(0,.optr [.osl 1 1 [.bool false],.osl 4 0 []])],1⟩:St) rfl rfl ?_
   refine jW 0 [2] ⟨[(2,.pref 0 [] 0)],[(0,.optr [.sl 1 [.bool false],.sl 0 []])],1⟩ rfl rfl ?_
   refine ay ?_
   exact ⟨_,_,rfl,rfl,by rw [ht];rfl⟩
  | true =>
   have ht:trimF fin al=(gZ (fQ fin al) fin fin.length,jF (fQ fin al) al):=by
    unfold trimF
    rw [if_pos hv,if_pos ((hlc 0).1 hb0)]
   repeat (first|refine ah ?_|refine dC ?_|refine dU (by rfl) bn (by (try simp (disch:=omega) only [go_sem,reduceIte,Nat.reduceEqDiff,Nat.reduceAdd,Nat.reduceMul,hb0,Bool.not_true]);try rfl) aG (by (try simp (disch:=omega) only [go_sem,hb0,Bool.not_true]);try rfl) aJ ?_|refine af ?_|refine aI ?_|refine ax ?_|refine au ?_|refine ae ?_|refine aA ?_|refine aF ?_|refine iJ (by rfl) ?_|refine aB ?_|refine kF (by rfl) aJ aK jy kK (by rfl) kP (by rfl) kN (by (try simp (disch:=omega) only [go_sem,reduceIte,Nat.reduceEqDiff,Nat.reduceAdd,Nat.reduceMul,hb0,Bool.not_true]);try rfl) aG (by (try simp (disch:=omega) only [go_sem,hb0,Bool.not_true]);try rfl) aK jc ?_|refine bG dS ?_|refine nI dS (by rfl) (by omega) aK aK ?_|refine bZ ?_)
   refine fF 336 [1,4] [1,2,3,4,5,6,7] (⟨[(1,.pref 0 [] 0),(2,.pref 1 [] 0),(3,.ref 2 [] 1 0 fin.length),(4,.ref 3 [] 1 0 fin.length),(5,.ref 4 [] 1 0 fin.length),(6,.pref 5 [] 0),(7,.int .i64 0)],[(0,.optr [.sl fin.length (HL.bools fin),.sl al.length (recs aC al)]),(1,.optr [.nils,.nils]),(2,.osl 1 fin.length (HL.bools rb)),(3,.osl 1 fin.length (HL.bools lb)),(4,.osl 1 fin.length (HL.ints (List.replicate fin.length 0))),(5,.optr [.osl 1 0 [],.osl 4 0 []])],6⟩:St) rfl rfl ?_
   refine bg 0 [1,2,3,4,5,6,7] ⟨[(1,.ptr (stripL [.sl fin.length (HL.bools fin),.sl al.length (recs aC al)]) 0),(2,.pref 0 [] 0),(3,.ref 1 [] 1 0 fin.length),(4,.ref 2 [] 1 0 fin.length),(5,.ref 3 [] 1 0 fin.length),(6,.pref 4 [] 0),(7,.int .i64 0)],[(0,.optr [.nils,.nils]),(1,.osl 1 fin.length (HL.bools rb)),(2,.osl 1 fin.length (HL.bools lb)),(3,.osl 1 fin.length (HL.ints (List.replicate fin.length 0))),(4,.optr [.osl 1 0 [],.osl 4 0 []])],5⟩ rfl ?_
   rw [iU,<- y5 (k:=fQ fin al)]
   refine bW [1,2,3,4,5,6,7] (fun i:Nat=>i<=fin.length)
    (fun i=>⟨[(1,.ptr [.sl fin.length (HL.bools fin),.sl al.length (recs aC al)] 0),(2,.pref 0 [] 0),(3,.ref 1 [] 1 0 fin.length),(4,.ref 2 [] 1 0 fin.length),(5,.ref 3 [] 1 0 fin.length),(6,.pref 4 [] 0),(7,.int .i64 i)],[(0,.optr [.nils,.nils]),(1,.osl 1 fin.length (HL.bools rb)),(2,.osl 1 fin.length (HL.bools lb)),(3,.osl 1 fin.length (HL.ints (kw (fQ fin al) fin.length i))),(4,.optr [.osl 1 (gZ (fQ fin al) fin i).length (HL.bools (gZ (fQ fin al) fin i)),.osl 4 0 []])],5⟩)
    (fun i=>fin.length - i) 0 (by omega) rfl ?_
   intro i hi
   have hol:(kw (fQ fin al) fin.length i).length=fin.length:=sO
   by_cases hil:i<fin.length
   ·have hfl:(gZ (fQ fin al) fin i).length<=i:=by rw [kz];exact cnt_le
    have hki:=hkp i
    have hos:=y8 (k:=fQ fin al) hil
    unfold Dp at hos
    cases hr:rb.getD i false with
    | false =>
     have hk0:fQ fin al i=false:=by rw [<- hki,hr,Bool.false_and]
     have hf:=vJ (fin:=fin) hk0
     rw [hk0] at hos
     repeat (first|refine ah ?_|refine dn ?_|refine dC ?_|refine eG (by rfl) aG (by (try simp (disch:=omega) only [go_sem,hr]);try rfl) ?_|refine dU (by rfl) bn (by (try simp (disch:=omega) only [go_sem,reduceIte,Nat.reduceEqDiff,Nat.reduceAdd,Nat.reduceMul,hr]);try rfl) aG (by (try simp (disch:=omega) only [go_sem,hr]);try rfl) aJ ?_|refine af ?_|refine az ?_|refine aP ?_|refine gI (by rfl) (by rfl) (by (try simp (disch:=omega) only [go_sem,Int.reduceAdd,Int.reduceSub,Int.reduceMul,hr]);try rfl) ?_|refine aI ?_|refine ak ?_|refine ax ?_|refine au ?_|refine ae ?_|refine aA ?_|refine dL ?_|refine aF ?_|refine aX ?_|refine l9 (by rfl) aJ aK gy (by rfl) (by decide) bn aK aG (by (try simp (disch:=omega) only [go_sem,hr]);try rfl) aK ?_)
     exact dm [1,2,3,4,5,6,7] (i+1) hil (by omega) (by simp only [hf,<- hos];rfl)
    | true =>
     cases hl:lb.getD i false with
     | false =>
      have hk0:fQ fin al i=false:=by rw [<- hki,hl,Bool.and_false]
      have hf:=vJ (fin:=fin) hk0
      rw [hk0] at hos
      repeat (first|refine ah ?_|refine aN ?_|refine dC ?_|refine eG (by rfl) aG (by (try simp (disch:=omega) only [go_sem,hr,hl]);try rfl) ?_|refine dU (by rfl) bn (by (try simp (disch:=omega) only [go_sem,reduceIte,Nat.reduceEqDiff,Nat.reduceAdd,Nat.reduceMul,hr,hl]);try rfl) aG (by (try simp (disch:=omega) only [go_sem,hr,hl]);try rfl) aJ ?_|refine af ?_|refine az ?_|refine aV ?_|refine gI (by rfl) (by rfl) (by (try simp (disch:=omega) only [go_sem,Int.reduceAdd,Int.reduceSub,Int.reduceMul,hr,hl]);try rfl) ?_|refine aI ?_|refine ak ?_|refine ax ?_|refine au ?_|refine ae ?_|refine aA ?_|refine dL ?_|refine aF ?_|refine aX ?_|refine l9 (by rfl) aJ aK gy (by rfl) (by decide) bn aK aG (by (try simp (disch:=omega) only [go_sem,hr,hl]);try rfl) aK ?_)
      exact dm [1,2,3,4,5,6,7] (i+1) hil (by omega) (by simp only [hf,<- hos];rfl)
     | true =>
      have hk1:fQ fin al i=true:=by rw [<- hki,hr,hl];rfl
      have hf:=Cb (fin:=fin) hk1
      rw [hk1,if_pos rfl,<- kz (fin:=fin)] at hos
      have hss:((kw (fQ fin al) fin.length i).set i (-1)).set i ((gZ (fQ fin al) fin i).length:Int)=kw (fQ fin al) fin.length (i+1):=by rw [List.set_set];exact hos
      repeat (first|refine ah ?_|refine aN ?_|refine dC ?_|refine eG (by rfl) aG (by (try simp (disch:=omega) only [go_sem,hr,hl]);try rfl) ?_|refine dU (by rfl) bn (by (try simp (disch:=omega) only [go_sem,reduceIte,Nat.reduceEqDiff,Nat.reduceAdd,Nat.reduceMul,hr,hl]);try rfl) aG (by (try simp (disch:=omega) only [go_sem,hr,hl]);try rfl) aJ ?_|refine af ?_|refine az ?_|refine aV ?_|refine dY (by rfl) ?_|refine aI ?_|refine ak ?_|refine au ?_|refine ae ?_|refine aA ?_|refine aF ?_|refine aX ?_|refine aB ?_|refine l9 (by rfl) aJ aK gy (by rfl) (by decide) bn aK aG (by (try simp (disch:=omega) only [go_sem,hr,hl]);try rfl) aK ?_)
      refine ji [1,7] [] aY aY (fun _ _ _=>False) (by simp [aT,HV.deep,bz,ig,iM]) (by simp) ?_
      repeat (first|refine ah ?_|refine aO ?_|refine di ?_|refine aU ?_|refine af ?_|refine bY ?_|refine ae ?_|refine dL ?_|refine aX ?_|refine aB ?_|refine cu ?_|refine bU ?_|refine gG ?_)
      exact dm [1,2,3,4,5,6,7] (i+1) hil (by omega) (by simp only [hf,<- hss,List.length_append,List.length_singleton];rfl)
   ·obtain rfl:i=fin.length:=by omega
    repeat (first|refine ah ?_|refine di ?_|refine af ?_|refine az ?_|refine aI ?_|refine bQ (by rfl) ?_|refine ax ?_|refine au ?_|refine ae ?_|refine aA ?_|refine aX ?_)
    have hEn:stripL (win (HL.ints (kw (fQ fin al) fin.length fin.length)) 0 (fin.length*1))=HL.ints (kw (fQ fin al) fin.length fin.length):=by rw [jO _ (by simp [HL.ints,sO]),HL.ints_strip]
    refine bg 3 [1,2,5,6,8] ⟨[(1,.ptr [.sl fin.length (HL.bools fin),.sl al.length (recs aC al)] 0),(2,.pref 0 [] 0),(5,.sl fin.length (HL.ints (kw (fQ fin al) fin.length fin.length))),(6,.pref 1 [] 0),(8,.int .i64 0)],[(0,.optr [.nils,.nils]),(1,.optr [.osl 1 (gZ (fQ fin al) fin fin.length).length (HL.bools (gZ (fQ fin al) fin fin.length)),.osl 4 0 []])],2⟩ (congrArg (fun c:List HV=>(⟨[(1,.ptr [.sl fin.length (HL.bools fin),.sl al.length (recs aC al)] 0),(2,.pref 0 [] 0),(5,.sl fin.length c),(6,.pref 1 [] 0),(8,.int .i64 0)],[(0,.optr [.nils,.nils]),(1,.optr [.osl 1 (gZ (fQ fin al) fin fin.length).length (HL.bools (gZ (fQ fin al) fin fin.length)),.osl 4 0 []])],2⟩:St)) hEn) ?_
    refine bW [1,2,5,6,8] (fun j:Nat=>j<=al.length) (fun j=>⟨[(1,.ptr [.sl fin.length (HL.bools fin),.sl al.length (recs aC al)] 0),(2,.pref 0 [] 0),(5,.sl fin.length (HL.ints (kw (fQ fin al) fin.length fin.length))),(6,.pref 1 [] 0),(8,.int .i64 j)],[(0,.optr [.nils,.nils]),(1,.optr [.osl 1 (gZ (fQ fin al) fin fin.length).length (HL.bools (gZ (fQ fin al) fin fin.length)),.osl 4 (jF (fQ fin al) (al.take j)).length (recs aC (jF (fQ fin al) (al.take j)))])],2⟩) (fun j=>al.length - j) 0 (by omega) rfl ?_
    intro j hj
    have hal:=tJ (k:=fQ fin al) (al.take j)
    rw [List.length_take] at hal
    by_cases hjl:j<al.length
    ·have haa:=eU hv (iY hjl)
     have hst:=yu (k:=fQ fin al) hjl
     have o1:=sZ (k:=fQ fin al) (show (al.getD j default).f.toNat<fin.length by omega)
     have o2:=sZ (k:=fQ fin al) (show (al.getD j default).t.toNat<fin.length by omega)
     unfold Dp at o1 o2
     have c1:=cnt_le (k:=fQ fin al) (i:=(al.getD j default).f.toNat)
     have c2:=cnt_le (k:=fQ fin al) (i:=(al.getD j default).t.toNat)
     cases hk1:fQ fin al (al.getD j default).f.toNat with
     | false =>
      rw [hk1] at o1 hst
      simp only [Bool.false_eq_true,if_false,Bool.false_and,List.append_nil] at o1 hst
      repeat (first|refine ah ?_|refine dn ?_|refine aO ?_|refine eG (by rfl) aG (by (try simp (disch:=omega) only [go_sem,o1]);try rfl) ?_|refine dU (by rfl) bn (by (try simp (disch:=omega) only [go_sem,reduceIte,Nat.reduceEqDiff,Nat.reduceAdd,Nat.reduceMul,o1]);try rfl) aG (by (try simp (disch:=omega) only [go_sem,o1]);try rfl) aJ ?_|refine af ?_|refine az ?_|refine aP ?_|refine gI (by rfl) (by rfl) (by (try simp (disch:=omega) only [go_sem,Int.reduceAdd,Int.reduceSub,Int.reduceMul,o1]);try rfl) ?_|refine aI ?_|refine ak ?_|refine ax ?_|refine au ?_|refine ae ?_|refine aA ?_|refine dL ?_|refine aF ?_|refine dP ?_|refine aX ?_|refine aB ?_|refine iq (by rfl) aG (by (try simp (disch:=omega) only [go_sem,reduceIte,Nat.reduceEqDiff,Nat.reduceAdd,Nat.reduceMul,o1]);try rfl) ?_|refine l9 (by rfl) aJ aK gy (by rfl) (by decide) bn aK aG (by (try simp (disch:=omega) only [go_sem,o1]);try rfl) aK ?_|refine bG dS ?_)
      exact dm [1,2,5,6,8] (j+1) hjl (by omega) (by simp only [hst];rfl)
     | true =>
      rw [hk1] at o1 hst
      simp only [if_true] at o1
      cases hk2:fQ fin al (al.getD j default).t.toNat with
      | false =>
       rw [hk2] at o2 hst
       simp only [Bool.false_eq_true,if_false,Bool.and_false,List.append_nil] at o2 hst
       repeat (first|refine ah ?_|refine aN ?_|refine aO ?_|refine eG (by rfl) aG (by (try simp (disch:=omega) only [go_sem,o1,o2]);try rfl) ?_|refine dU (by rfl) bn (by (try simp (disch:=omega) only [go_sem,reduceIte,Nat.reduceEqDiff,Nat.reduceAdd,Nat.reduceMul,o1,o2]);try rfl) aG (by (try simp (disch:=omega) only [go_sem,o1,o2]);try rfl) aJ ?_|refine af ?_|refine az ?_|refine aV ?_|refine gI (by rfl) (by rfl) (by (try simp (disch:=omega) only [go_sem,Int.reduceAdd,Int.reduceSub,Int.reduceMul,o1,o2]);try rfl) ?_|refine aI ?_|refine ak ?_|refine ax ?_|refine au ?_|refine ae ?_|refine aA ?_|refine dL ?_|refine aF ?_|refine dP ?_|refine aX ?_|refine aB ?_|refine iq (by rfl) aG (by (try simp (disch:=omega) only [go_sem,reduceIte,Nat.reduceEqDiff,Nat.reduceAdd,Nat.reduceMul,o1,o2]);try rfl) ?_|refine l9 (by rfl) aJ aK gy (by rfl) (by decide) bn aK aG (by (try simp (disch:=omega) only [go_sem,o1,o2]);try rfl) aK ?_|refine bG dS ?_)
       exact dm [1,2,5,6,8] (j+1) hjl (by omega) (by simp only [hst];rfl)
      | true =>
       rw [hk2] at o2 hst
       simp only [if_true,Bool.and_self] at o2 hst
       repeat (first|refine ah ?_|refine aN ?_|refine aO ?_|refine eG (by rfl) aG (by (try simp (disch:=omega) only [go_sem,o1,o2]);try rfl) ?_|refine dU (by rfl) bn (by (try simp (disch:=omega) only [go_sem,reduceIte,Nat.reduceEqDiff,Nat.reduceAdd,Nat.reduceMul,o1,o2]);try rfl) aG (by (try simp (disch:=omega) only [go_sem,o1,o2]);try rfl) aJ ?_|refine af ?_|refine az ?_|refine aV ?_|refine aI ?_|refine ak ?_|refine au ?_|refine ae ?_|refine aA ?_|refine aF ?_|refine dP ?_|refine aX ?_|refine aB ?_|refine iq (by rfl) aG (by (try simp (disch:=omega) only [go_sem,reduceIte,Nat.reduceEqDiff,Nat.reduceAdd,Nat.reduceMul,o1,o2]);try rfl) ?_|refine l9 (by rfl) aJ aK gy (by rfl) (by decide) bn aK aG (by (try simp (disch:=omega) only [go_sem,o1,o2]);try rfl) aK ?_|refine bG dS ?_)
       refine bg 162 [1,2,5,6,8,9] ⟨[(1,.ptr [.sl fin.length (HL.bools fin),.sl al.length (recs aC al)] 0),(2,.pref 0 [] 0),(5,.sl fin.length (HL.ints (kw (fQ fin al) fin.length fin.length))),(6,.pref 1 [] 0),(8,.int .i64 j),(9,.ptr (aC (al.getD j default)) 0)],[(0,.optr [.nils,.nils]),(1,.optr [.osl 1 (gZ (fQ fin al) fin fin.length).length (HL.bools (gZ (fQ fin al) fin fin.length)),.osl 4 (jF (fQ fin al) (al.take j)).length (recs aC (jF (fQ fin al) (al.take j)))])],2⟩ rfl ?_
       unfold O6
       refine ji [5,9] [] aY aY (fun _ _ _=>False) (by simp [aT,HV.deep,bz,jP,aC]) (by simp) ?_
       simp only [aC]
       repeat (first|refine ah ?_|refine aO ?_|refine eG (by rfl) aG (by (try simp (disch:=omega) only [go_sem,o1,o2]);try rfl) ?_|refine dU (by rfl) bn (by (try simp (disch:=omega) only [go_sem,reduceIte,Nat.reduceEqDiff,Nat.reduceAdd,Nat.reduceMul,o1,o2]);try rfl) aG (by (try simp (disch:=omega) only [go_sem,o1,o2]);try rfl) aJ ?_|refine af ?_|refine gI (by rfl) (by rfl) (by (try simp (disch:=omega) only [go_sem,Int.reduceAdd,Int.reduceSub,Int.reduceMul,o1,o2]);try rfl) ?_|refine ae ?_|refine dL ?_|refine aX ?_|refine aB ?_|refine kF (by rfl) aJ aK jy kK (by rfl) kP (by rfl) kN (by (try simp (disch:=omega) only [go_sem,reduceIte,Nat.reduceEqDiff,Nat.reduceAdd,Nat.reduceMul,o1,o2]);try rfl) aG (by (try simp (disch:=omega) only [go_sem,o1,o2]);try rfl) aK jc ?_|refine bU ?_|refine kT dS (by rfl) aJ rD (by (try simp (disch:=omega) only [go_sem,reduceIte,Nat.reduceEqDiff,Nat.reduceAdd,Nat.reduceMul,o1,o2]);try omega) bn (by (try simp (disch:=omega) only [go_sem,reduceIte,Nat.reduceEqDiff,Nat.reduceAdd,Nat.reduceMul,o1,o2]);try rfl) dS (by omega) iH aG (by (try simp (disch:=omega) only [go_sem,reduceIte,Nat.reduceEqDiff,Nat.reduceAdd,Nat.reduceMul,o1,o2]);try rfl) aK ?_|refine bZ ?_)
       exact dm [1,2,5,6,8] (j+1) hjl (by omega) (by simp only [hst,List.length_append,List.length_singleton];rfl)
    ·obtain rfl:j=al.length:=by omega
     rw [List.take_length]
     refine bg 1 [1,2,6,8] ⟨[(1,.ptr [.sl fin.length (HL.bools fin),.sl al.length (recs aC al)] 0),(2,.pref 0 [] 0),(6,.ptr (stripL [.osl 1 (gZ (fQ fin al) fin fin.length).length (HL.bools (gZ (fQ fin al) fin fin.length)),.osl 4 (jF (fQ fin al) al).length (recs aC (jF (fQ fin al) al))]) 0),(8,.int .i64 al.length)],[(0,.optr [.nils,.nils])],1⟩ rfl ?_
     rw [show stripL [.osl 1 (gZ (fQ fin al) fin fin.length).length (HL.bools (gZ (fQ fin al) fin fin.length)),.osl 4 (jF (fQ fin al) al).length (recs aC (jF (fQ fin al) al))]=[.sl (gZ (fQ fin al) fin fin.length).length (HL.bools (gZ (fQ fin al) fin fin.length)),.sl (jF (fQ fin al) al).length (recs aC (jF (fQ fin al) al))] by simp [stripL,HV.strip,HL.bools_strip,jg]]
     repeat (first|refine ah ?_|refine di ?_|refine af ?_|refine az ?_|refine aI ?_|refine bQ (by rfl) ?_|refine ax ?_|refine au ?_|refine ae ?_|refine aX ?_|refine aZ ?_|refine cu ?_)
     refine ay ?_
     exact ⟨_,_,rfl,rfl,by rw [ht];rfl⟩
 ·have ht:trimF fin al=([],[]):=by unfold trimF;rw [if_neg hv]
  rw [show okF fin al=false by simpa using hv]
  refine ⟨bP,_,_,_,_,_,gU,(by decide),bJ,?_⟩
  repeat (first|refine af ?_|refine ak ?_|refine au ?_|refine ae ?_|refine je (by rfl) ?_|refine cu ?_|refine bZ ?_)
  refine fF 16 [1,4] [2] (⟨[(2,.pref 0 [] 0)],[(0,.optr [.osl 1 0 [],.osl 4 0 []])],1⟩:St) rfl rfl ?_
  refine jW 0 [2] ⟨[(2,.pref 0 [] 0)],[(0,.optr [.sl 0 [],.sl 0 []])],1⟩ rfl rfl ?_
  refine ay ?_
  exact ⟨_,_,rfl,rfl,by rw [ht];rfl⟩
end Go.Proofs.Ytlbdmpjnmfmnfaa
