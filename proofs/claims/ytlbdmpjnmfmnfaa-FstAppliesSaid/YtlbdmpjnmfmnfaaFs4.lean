import Derived.Test.YtlbdmpjnmfmnfaaFs3
import Derived.Test.YtlbdmpjnmfmnfaaHlNv
set_option linter.unusedSimpArgs false
set_option linter.unusedVariables false
namespace Go.Proofs.Ytlbdmpjnmfmnfaa
open Go.RowKit Go.HL Go.FS
def cnt (k:Nat->Bool) (i:Nat):Nat:=((List.range i).filter k).length
def JC (k:Nat->Bool) (i:Nat):Int:=if k i then cnt k i else -1
def nY (k:Nat->Bool) (n i:Nat):List Int:=(List.range n).map fun j=>if j<i then JC k j else 0
def kE (k:Nat->Bool) (fin:List Bool) (i:Nat):List Bool:=((List.range i).filter k).map fun j=>fin.getD j false
def rE (k:Nat->Bool) (l:List A):List A:=l.filterMap fun a=>if k a.f.toNat&&k a.t.toNat then some ⟨cnt k a.f.toNat,a.i,a.o,cnt k a.t.toNat⟩ else none
section
variable {k:Nat->Bool} {n i:Nat} {fin:List Bool}
theorem BL:(nY k n i).length=n:=by simp [nY]
theorem Hw:nY k n 0=List.replicate n 0:=by
 apply List.ext_getElem?
 intro j
 simp only [nY,List.getElem?_map,List.getElem?_range,List.getElem?_replicate]
 split<;>simp_all
theorem IZ (h:i<n):(nY k n i).set i (JC k i)=nY k n (i+1):=by
 apply List.ext_getElem?
 intro j
 rw [List.getElem?_set]
 by_cases hj:j<n
 ·by_cases e:i=j
  ·subst e;simp [nY,hj]
  ·have h2:(j<i)=(j<i+1):=by apply propext;omega
   simp [nY,hj,e,h2]
 ·have:¬ i=j:=by omega
  simp [nY,hj,this]
theorem BR (h:i<n):(nY k n n).getD i 0=JC k i:=by simp [nY,h]
theorem xG:(kE k fin i).length=cnt k i:=by simp [kE,cnt]
theorem Lh (h:k i=true):kE k fin (i+1)=kE k fin i++[fin.getD i false]:=by simp [kE,List.range_succ,h]
theorem Gl (h:k i=false):kE k fin (i+1)=kE k fin i:=by simp [kE,List.range_succ,h]
theorem cnt_le:cnt k i<=i:=by
 have:=List.length_filter_le k (List.range i)
 simpa [cnt] using this
theorem Ht {l:List A} {j:Nat} (h:j<l.length):rE k (l.take (j+1))=rE k (l.take j)++(if k (l.getD j default).f.toNat&&k (l.getD j default).t.toNat then [⟨cnt k (l.getD j default).f.toNat,(l.getD j default).i,(l.getD j default).o,cnt k (l.getD j default).t.toNat⟩] else []):=by
 unfold rE
 rw [dE h,List.filterMap_append]
 congr 1
 generalize l.getD j default=a
 by_cases hk:(k a.f.toNat&&k a.t.toNat)=true
 ·simp only [List.filterMap_cons,List.filterMap_nil,if_pos hk]
 ·simp only [List.filterMap_cons,List.filterMap_nil,if_neg hk]
theorem AA (l:List A):(rE k l).length<=l.length:=List.length_filterMap_le _ _
end
open Classical in
noncomputable def jZ (fin:List Bool) (al:List A) (i:Nat):Bool:=decide (Rc al (·.f) (·.t) (·=0) i/\Rc al (·.t) (·.f) (fun j=>fin.getD j false=true) i)
theorem Nl {fin:List Bool} {al:List A} {i:Nat}:jZ fin al i=true <-> Rc al (·.f) (·.t) (·=0) i/\Rc al (·.t) (·.f) (fun j=>fin.getD j false=true) i:=by simp [jZ]
open Classical in
noncomputable def trimF (fin:List Bool) (al:List A):List Bool×List A :=
 if okF fin al=true then
  if Rc al (·.t) (·.f) (fun j=>fin.getD j false=true) 0 then (kE (jZ fin al) fin fin.length,rE (jZ fin al) al) else ([false],[])
 else ([],[])
set_option maxHeartbeats 8000000 in
theorem Lt (fin:List Bool) (al:List A) (hf:fin.length<=9223372036854775807) (ha:al.length<=9223372036854775807):HT Try.prog 13 [.agg (fK fin al)] (fun r=>r=.agg (fK (trimF fin al).1 (trimF fin al).2)):=by
 refine HT.ofC rfl abk [2] rfl (Nat.le_of_ble_eq_true rfl) ?_
 unfold c13
 have hvd:=y5 fin al hf ha
 have hrd:=Ed fin al
 have hld:=EJ fin al
 simp only [aX,Nat.reduceAdd]
 simp only [fK,gX] at hvd hrd hld ⊢
 repeat (first|refine af ?_|refine au ?_|refine ae ?_|refine fU ?_|refine di ?_|refine bU dN ?_)
 refine dF bW dm (hvd) ?_
 rintro _ rfl
 by_cases hv:okF fin al=true
 ·rw [hv]
  refine ⟨cO,_,_,_,_,_,gY,(by decide),bT,?_⟩
  obtain ⟨h1,h2,h3⟩:=iF hv
  repeat (first|refine af ?_|refine ax ?_|refine au ?_|refine ae ?_|refine aH ?_|refine gI (by rfl) ?_|refine fU ?_)
  refine dF bW dm (hrd hv) ?_
  rintro _ ⟨rb,rfl,hrl,hrc⟩
  refine ⟨cO,_,_,_,_,_,gY,(by decide),bT,?_⟩
  repeat (first|refine ah ?_|refine af ?_|refine au ?_|refine ae ?_|refine fU ?_)
  refine dF bW dm (hld hv) ?_
  rintro _ ⟨lb,rfl,hll,hlc⟩
  refine ⟨cO,_,_,_,_,_,gY,(by decide),bT,?_⟩
  have hkp:∀i,(rb.getD i false&&lb.getD i false)=jZ fin al i:=fun i=>by
   rw [Bool.eq_iff_iff,Bool.and_eq_true,Nl,hrc,hlc]
  cases hb0:lb.getD 0 false with
  | false =>
   have ht:trimF fin al=([false],[]):=by
    unfold trimF
    rw [if_pos hv,if_neg (fun h=>by rw [(hlc 0).2 h] at hb0;cases hb0)]
   repeat (first|refine ah ?_|refine cZ ?_|refine dK (by rfl) aW (by (try simp (disch:=omega) only [go_sem,reduceIte,Nat.reduceEqDiff,Nat.reduceAdd,Nat.reduceMul,hb0,Bool.not_false]);try rfl) aG (by (try simp (disch:=omega) only [go_sem,hb0,Bool.not_false]);try rfl) aQ ?_|refine af ?_|refine ak ?_|refine au ?_|refine ae ?_|refine iG (by rfl) ?_|refine kF (by rfl) aQ aI iW kG (by rfl) kX (by rfl) kY (by (try simp (disch:=omega) only [go_sem,reduceIte,Nat.reduceEqDiff,Nat.reduceAdd,Nat.reduceMul,hb0,Bool.not_false]);try rfl) aG (by (try simp (disch:=omega) only [go_sem,hb0,Bool.not_false]);try rfl) aI jk ?_|refine bP ?_|refine dB ?_)
   refine gQ 16 [1,4] [2] (⟨[(2,.pref 0 [] 0)],[(0,.optr [.osl 1 1 [.bool false],.osl 4 0 []])],1⟩:St) rfl rfl ?_
   refine nC 0 [2] ⟨[(2,.pref 0 [] 0)],[(0,.optr [.sl 1 [.bool false],.sl 0 []])],1⟩ rfl rfl ?_
   refine az ?_
   exact ⟨_,_,rfl,rfl,by rw [ht];rfl⟩
  | true =>
   have ht:trimF fin al=(kE (jZ fin al) fin fin.length,rE (jZ fin al) al):=by
    unfold trimF
    rw [if_pos hv,if_pos ((hlc 0).1 hb0)]
   repeat (first|refine ah ?_|refine cZ ?_|refine dK (by rfl) aW (by (try simp (disch:=omega) only [go_sem,reduceIte,Nat.reduceEqDiff,Nat.reduceAdd,Nat.reduceMul,hb0,Bool.not_true]);try rfl) aG (by (try simp (disch:=omega) only [go_sem,hb0,Bool.not_true]);try rfl) aQ ?_|refine af ?_|refine aB ?_|refine ax ?_|refine au ?_|refine ae ?_|refine aA ?_|refine aH ?_|refine gI (by rfl) ?_|refine aF ?_|refine kF (by rfl) aQ aI iW kG (by rfl) kX (by rfl) kY (by (try simp (disch:=omega) only [go_sem,reduceIte,Nat.reduceEqDiff,Nat.reduceAdd,Nat.reduceMul,hb0,Bool.not_true]);try rfl) aG (by (try simp (disch:=omega) only [go_sem,hb0,Bool.not_true]);try rfl) aI jk ?_|refine bU dN ?_|refine lH dN (by rfl) (by omega) aI aI ?_|refine dB ?_)
   refine gQ 336 [1,4] [1,2,3,4,5,6,7] (⟨[(1,.pref 0 [] 0),(2,.pref 1 [] 0),(3,.ref 2 [] 1 0 fin.length),(4,.ref 3 [] 1 0 fin.length),(5,.ref 4 [] 1 0 fin.length),(6,.pref 5 [] 0),(7,.int .i64 0)],[(0,.optr [.sl fin.length (HL.bools fin),.sl al.length (recs aC al)]),(1,.optr [.nils,.nils]),(2,.osl 1 fin.length (HL.bools rb)),(3,.osl 1 fin.length (HL.bools lb)),(4,.osl 1 fin.length (HL.ints (List.replicate fin.length 0))),(5,.optr [.osl 1 0 [],.osl 4 0 []])],6⟩:St) rfl rfl ?_
   refine bF 0 [1,2,3,4,5,6,7] ⟨[(1,.ptr (stripL [.sl fin.length (HL.bools fin),.sl al.length (recs aC al)]) 0),(2,.pref 0 [] 0),(3,.ref 1 [] 1 0 fin.length),(4,.ref 2 [] 1 0 fin.length),(5,.ref 3 [] 1 0 fin.length),(6,.pref 4 [] 0),(7,.int .i64 0)],[(0,.optr [.nils,.nils]),(1,.osl 1 fin.length (HL.bools rb)),(2,.osl 1 fin.length (HL.bools lb)),(3,.osl 1 fin.length (HL.ints (List.replicate fin.length 0))),(4,.optr [.osl 1 0 [],.osl 4 0 []])],5⟩ rfl ?_
   rw [jy,<- Hw (k:=jZ fin al)]
   refine bQ [1,2,3,4,5,6,7] (fun i:Nat=>i<=fin.length)
    (fun i=>⟨[(1,.ptr [.sl fin.length (HL.bools fin),.sl al.length (recs aC al)] 0),(2,.pref 0 [] 0),(3,.ref 1 [] 1 0 fin.length),(4,.ref 2 [] 1 0 fin.length),(5,.ref 3 [] 1 0 fin.length),(6,.pref 4 [] 0),(7,.int .i64 i)],[(0,.optr [.nils,.nils]),(1,.osl 1 fin.length (HL.bools rb)),(2,.osl 1 fin.length (HL.bools lb)),(3,.osl 1 fin.length (HL.ints (nY (jZ fin al) fin.length i))),(4,.optr [.osl 1 (kE (jZ fin al) fin i).length (HL.bools (kE (jZ fin al) fin i)),.osl 4 0 []])],5⟩)
    (fun i=>fin.length - i) 0 (by omega) rfl ?_
   intro i hi
   have hol:(nY (jZ fin al) fin.length i).length=fin.length:=BL
   by_cases hil:i<fin.length
   ·have hfl:(kE (jZ fin al) fin i).length<=i:=by rw [xG];exact cnt_le
    have hki:=hkp i
    have hos:=IZ (k:=jZ fin al) hil
    unfold JC at hos
    cases hr:rb.getD i false with
    | false =>
     have hk0:jZ fin al i=false:=by rw [<- hki,hr,Bool.false_and]
     have hf:=Gl (fin:=fin) hk0
     rw [hk0] at hos
     repeat (first|refine ah ?_|refine cu ?_|refine cZ ?_|refine dA (by rfl) aG (by (try simp (disch:=omega) only [go_sem,hr]);try rfl) ?_|refine dK (by rfl) aW (by (try simp (disch:=omega) only [go_sem,reduceIte,Nat.reduceEqDiff,Nat.reduceAdd,Nat.reduceMul,hr]);try rfl) aG (by (try simp (disch:=omega) only [go_sem,hr]);try rfl) aQ ?_|refine af ?_|refine ay ?_|refine aN ?_|refine eU (by rfl) (by rfl) (by (try simp (disch:=omega) only [go_sem,Int.reduceAdd,Int.reduceSub,Int.reduceMul,hr]);try rfl) ?_|refine aB ?_|refine ak ?_|refine ax ?_|refine au ?_|refine ae ?_|refine aA ?_|refine dH ?_|refine aH ?_|refine aY ?_|refine kL (by rfl) aQ aI fH (by rfl) (by decide) aW aI aG (by (try simp (disch:=omega) only [go_sem,hr]);try rfl) aI ?_)
     exact bZ [1,2,3,4,5,6,7] (i+1) hil (by omega) (by simp only [hf,<- hos];rfl)
    | true =>
     cases hl:lb.getD i false with
     | false =>
      have hk0:jZ fin al i=false:=by rw [<- hki,hl,Bool.and_false]
      have hf:=Gl (fin:=fin) hk0
      rw [hk0] at hos
      repeat (first|refine ah ?_|refine aO ?_|refine cZ ?_|refine dA (by rfl) aG (by (try simp (disch:=omega) only [go_sem,hr,hl]);try rfl) ?_|refine dK (by rfl) aW (by (try simp (disch:=omega) only [go_sem,reduceIte,Nat.reduceEqDiff,Nat.reduceAdd,Nat.reduceMul,hr,hl]);try rfl) aG (by (try simp (disch:=omega) only [go_sem,hr,hl]);try rfl) aQ ?_|refine af ?_|refine ay ?_|refine aK ?_|refine eU (by rfl) (by rfl) (by (try simp (disch:=omega) only [go_sem,Int.reduceAdd,Int.reduceSub,Int.reduceMul,hr,hl]);try rfl) ?_|refine aB ?_|refine ak ?_|refine ax ?_|refine au ?_|refine ae ?_|refine aA ?_|refine dH ?_|refine aH ?_|refine aY ?_|refine kL (by rfl) aQ aI fH (by rfl) (by decide) aW aI aG (by (try simp (disch:=omega) only [go_sem,hr,hl]);try rfl) aI ?_)
      exact bZ [1,2,3,4,5,6,7] (i+1) hil (by omega) (by simp only [hf,<- hos];rfl)
     | true =>
      have hk1:jZ fin al i=true:=by rw [<- hki,hr,hl];rfl
      have hf:=Lh (fin:=fin) hk1
      rw [hk1,if_pos rfl,<- xG (fin:=fin)] at hos
      have hss:((nY (jZ fin al) fin.length i).set i (-1)).set i ((kE (jZ fin al) fin i).length:Int)=nY (jZ fin al) fin.length (i+1):=by rw [List.set_set];exact hos
      repeat (first|refine ah ?_|refine aO ?_|refine cZ ?_|refine dA (by rfl) aG (by (try simp (disch:=omega) only [go_sem,hr,hl]);try rfl) ?_|refine dK (by rfl) aW (by (try simp (disch:=omega) only [go_sem,reduceIte,Nat.reduceEqDiff,Nat.reduceAdd,Nat.reduceMul,hr,hl]);try rfl) aG (by (try simp (disch:=omega) only [go_sem,hr,hl]);try rfl) aQ ?_|refine af ?_|refine ay ?_|refine aK ?_|refine dO (by rfl) ?_|refine aB ?_|refine ak ?_|refine au ?_|refine ae ?_|refine aA ?_|refine aH ?_|refine aY ?_|refine aF ?_|refine kL (by rfl) aQ aI fH (by rfl) (by decide) aW aI aG (by (try simp (disch:=omega) only [go_sem,hr,hl]);try rfl) aI ?_)
      refine iU [1,7] [] bu bu (fun _ _ _=>False) (by simp [aV,HV.deep,bK,jD,jP]) (by simp) ?_
      repeat (first|refine ah ?_|refine aJ ?_|refine dD ?_|refine aS ?_|refine af ?_|refine bf ?_|refine ae ?_|refine dH ?_|refine aY ?_|refine aF ?_|refine dw ?_|refine bP ?_|refine gz ?_)
      exact bZ [1,2,3,4,5,6,7] (i+1) hil (by omega) (by simp only [hf,<- hss,List.length_append,List.length_singleton];rfl)
   ·obtain rfl:i=fin.length:=by omega
    repeat (first|refine ah ?_|refine dD ?_|refine af ?_|refine ay ?_|refine aB ?_|refine bD (by rfl) ?_|refine ax ?_|refine au ?_|refine ae ?_|refine aA ?_|refine aY ?_)
    have hEn:stripL (win (HL.ints (nY (jZ fin al) fin.length fin.length)) 0 (fin.length*1))=HL.ints (nY (jZ fin al) fin.length fin.length):=by rw [jc _ (by simp [HL.ints,BL]),HL.ints_strip]
    refine bF 3 [1,2,5,6,8] ⟨[(1,.ptr [.sl fin.length (HL.bools fin),.sl al.length (recs aC al)] 0),(2,.pref 0 [] 0),(5,.sl fin.length (HL.ints (nY (jZ fin al) fin.length fin.length))),(6,.pref 1 [] 0),(8,.int .i64 0)],[(0,.optr [.nils,.nils]),(1,.optr [.osl 1 (kE (jZ fin al) fin fin.length).length (HL.bools (kE (jZ fin al) fin fin.length)),.osl 4 0 []])],2⟩ (congrArg (fun c:List HV=>(⟨[(1,.ptr [.sl fin.length (HL.bools fin),.sl al.length (recs aC al)] 0),(2,.pref 0 [] 0),(5,.sl fin.length c),(6,.pref 1 [] 0),(8,.int .i64 0)],[(0,.optr [.nils,.nils]),(1,.optr [.osl 1 (kE (jZ fin al) fin fin.length).length (HL.bools (kE (jZ fin al) fin fin.length)),.osl 4 0 []])],2⟩:St)) hEn) ?_
    refine bQ [1,2,5,6,8] (fun j:Nat=>j<=al.length) (fun j=>⟨[(1,.ptr [.sl fin.length (HL.bools fin),.sl al.length (recs aC al)] 0),(2,.pref 0 [] 0),(5,.sl fin.length (HL.ints (nY (jZ fin al) fin.length fin.length))),(6,.pref 1 [] 0),(8,.int .i64 j)],[(0,.optr [.nils,.nils]),(1,.optr [.osl 1 (kE (jZ fin al) fin fin.length).length (HL.bools (kE (jZ fin al) fin fin.length)),.osl 4 (rE (jZ fin al) (al.take j)).length (recs aC (rE (jZ fin al) (al.take j)))])],2⟩) (fun j=>al.length - j) 0 (by omega) rfl ?_
    intro j hj
    have hal:=AA (k:=jZ fin al) (al.take j)
    rw [List.length_take] at hal
    by_cases hjl:j<al.length
    ·have haa:=fE hv (gU hjl)
     have hst:=Ht (k:=jZ fin al) hjl
     have o1:=BR (k:=jZ fin al) (show (al.getD j default).f.toNat<fin.length by omega)
     have o2:=BR (k:=jZ fin al) (show (al.getD j default).t.toNat<fin.length by omega)
     unfold JC at o1 o2
     have c1:=cnt_le (k:=jZ fin al) (i:=(al.getD j default).f.toNat)
     have c2:=cnt_le (k:=jZ fin al) (i:=(al.getD j default).t.toNat)
     cases hk1:jZ fin al (al.getD j default).f.toNat with
     | false =>
      rw [hk1] at o1 hst
      simp only [Bool.false_eq_true,if_false,Bool.false_and,List.append_nil] at o1 hst
      repeat (first|refine ah ?_|refine cu ?_|refine aJ ?_|refine dA (by rfl) aG (by (try simp (disch:=omega) only [go_sem,o1]);try rfl) ?_|refine dK (by rfl) aW (by (try simp (disch:=omega) only [go_sem,reduceIte,Nat.reduceEqDiff,Nat.reduceAdd,Nat.reduceMul,o1]);try rfl) aG (by (try simp (disch:=omega) only [go_sem,o1]);try rfl) aQ ?_|refine af ?_|refine ay ?_|refine aN ?_|refine eU (by rfl) (by rfl) (by (try simp (disch:=omega) only [go_sem,Int.reduceAdd,Int.reduceSub,Int.reduceMul,o1]);try rfl) ?_|refine aB ?_|refine ak ?_|refine ax ?_|refine au ?_|refine ae ?_|refine aA ?_|refine dH ?_|refine aH ?_|refine dh ?_|refine aY ?_|refine aF ?_|refine gB (by rfl) aG (by (try simp (disch:=omega) only [go_sem,reduceIte,Nat.reduceEqDiff,Nat.reduceAdd,Nat.reduceMul,o1]);try rfl) ?_|refine kL (by rfl) aQ aI fH (by rfl) (by decide) aW aI aG (by (try simp (disch:=omega) only [go_sem,o1]);try rfl) aI ?_|refine bU dN ?_)
      exact bZ [1,2,5,6,8] (j+1) hjl (by omega) (by simp only [hst];rfl)
     | true =>
      rw [hk1] at o1 hst
      simp only [if_true] at o1
      cases hk2:jZ fin al (al.getD j default).t.toNat with
      | false =>
       rw [hk2] at o2 hst
       simp only [Bool.false_eq_true,if_false,Bool.and_false,List.append_nil] at o2 hst
       repeat (first|refine ah ?_|refine aO ?_|refine aJ ?_|refine dA (by rfl) aG (by (try simp (disch:=omega) only [go_sem,o1,o2]);try rfl) ?_|refine dK (by rfl) aW (by (try simp (disch:=omega) only [go_sem,reduceIte,Nat.reduceEqDiff,Nat.reduceAdd,Nat.reduceMul,o1,o2]);try rfl) aG (by (try simp (disch:=omega) only [go_sem,o1,o2]);try rfl) aQ ?_|refine af ?_|refine ay ?_|refine aK ?_|refine eU (by rfl) (by rfl) (by (try simp (disch:=omega) only [go_sem,Int.reduceAdd,Int.reduceSub,Int.reduceMul,o1,o2]);try rfl) ?_|refine aB ?_|refine ak ?_|refine ax ?_|refine au ?_|refine ae ?_|refine aA ?_|refine dH ?_|refine aH ?_|refine dh ?_|refine aY ?_|refine aF ?_|refine gB (by rfl) aG (by (try simp (disch:=omega) only [go_sem,reduceIte,Nat.reduceEqDiff,Nat.reduceAdd,Nat.reduceMul,o1,o2]);try rfl) ?_|refine kL (by rfl) aQ aI fH (by rfl) (by decide) aW aI aG (by (try simp (disch:=omega) only [go_sem,o1,o2]);try rfl) aI ?_|refine bU dN ?_)
       exact bZ [1,2,5,6,8] (j+1) hjl (by omega) (by simp only [hst];rfl)
      | true =>
       rw [hk2] at o2 hst
       simp only [if_true,Bool.and_self] at o2 hst
       repeat (first|refine ah ?_|refine aO ?_|refine aJ ?_|refine dA (by rfl) aG (by (try simp (disch:=omega) only [go_sem,o1,o2]);try rfl) ?_|refine dK (by rfl) aW (by (try simp (disch:=omega) only [go_sem,reduceIte,Nat.reduceEqDiff,Nat.reduceAdd,Nat.reduceMul,o1,o2]);try rfl) aG (by (try simp (disch:=omega) only [go_sem,o1,o2]);try rfl) aQ ?_|refine af ?_|refine ay ?_|refine aK ?_|refine aB ?_|refine ak ?_|refine au ?_|refine ae ?_|refine aA ?_|refine aH ?_|refine dh ?_|refine aY ?_|refine aF ?_|refine gB (by rfl) aG (by (try simp (disch:=omega) only [go_sem,reduceIte,Nat.reduceEqDiff,Nat.reduceAdd,Nat.reduceMul,o1,o2]);try rfl) ?_|refine kL (by rfl) aQ aI fH (by rfl) (by decide) aW aI aG (by (try simp (disch:=omega) only [go_sem,o1,o2]);try rfl) aI ?_|refine bU dN ?_)
       refine bF 162 [1,2,5,6,8,9] ⟨[(1,.ptr [.sl fin.length (HL.bools fin),.sl al.length (recs aC al)] 0),(2,.pref 0 [] 0),(5,.sl fin.length (HL.ints (nY (jZ fin al) fin.length fin.length))),(6,.pref 1 [] 0),(8,.int .i64 j),(9,.ptr (aC (al.getD j default)) 0)],[(0,.optr [.nils,.nils]),(1,.optr [.osl 1 (kE (jZ fin al) fin fin.length).length (HL.bools (kE (jZ fin al) fin fin.length)),.osl 4 (rE (jZ fin al) (al.take j)).length (recs aC (rE (jZ fin al) (al.take j)))])],2⟩ rfl ?_
       unfold PH
       refine iU [5,9] [] bu bu (fun _ _ _=>False) (by simp [aV,HV.deep,bK,kJ,aC]) (by simp) ?_
       simp only [aC]
       repeat (first|refine ah ?_|refine aJ ?_|refine dA (by rfl) aG (by (try simp (disch:=omega) only [go_sem,o1,o2]);try rfl) ?_|refine dK (by rfl) aW (by (try simp (disch:=omega) only [go_sem,reduceIte,Nat.reduceEqDiff,Nat.reduceAdd,Nat.reduceMul,o1,o2]);try rfl) aG (by (try simp (disch:=omega) only [go_sem,o1,o2]);try rfl) aQ ?_|refine af ?_|refine eU (by rfl) (by rfl) (by (try simp (disch:=omega) only [go_sem,Int.reduceAdd,Int.reduceSub,Int.reduceMul,o1,o2]);try rfl) ?_|refine ae ?_|refine dH ?_|refine aY ?_|refine aF ?_|refine kF (by rfl) aQ aI iW kG (by rfl) kX (by rfl) kY (by (try simp (disch:=omega) only [go_sem,reduceIte,Nat.reduceEqDiff,Nat.reduceAdd,Nat.reduceMul,o1,o2]);try rfl) aG (by (try simp (disch:=omega) only [go_sem,o1,o2]);try rfl) aI jk ?_|refine bP ?_|refine iM dN (by rfl) aQ l9 (by (try simp (disch:=omega) only [go_sem,reduceIte,Nat.reduceEqDiff,Nat.reduceAdd,Nat.reduceMul,o1,o2]);try omega) aW (by (try simp (disch:=omega) only [go_sem,reduceIte,Nat.reduceEqDiff,Nat.reduceAdd,Nat.reduceMul,o1,o2]);try rfl) dN (by omega) fP aG (by (try simp (disch:=omega) only [go_sem,reduceIte,Nat.reduceEqDiff,Nat.reduceAdd,Nat.reduceMul,o1,o2]);try rfl) aI ?_|refine dB ?_)
       exact bZ [1,2,5,6,8] (j+1) hjl (by omega) (by simp only [hst,List.length_append,List.length_singleton];rfl)
    ·obtain rfl:j=al.length:=by omega
     rw [List.take_length]
     refine bF 1 [1,2,6,8] ⟨[(1,.ptr [.sl fin.length (HL.bools fin),.sl al.length (recs aC al)] 0),(2,.pref 0 [] 0),(6,.ptr (stripL [.osl 1 (kE (jZ fin al) fin fin.length).length (HL.bools (kE (jZ fin al) fin fin.length)),.osl 4 (rE (jZ fin al) al).length (recs aC (rE (jZ fin al) al))]) 0),(8,.int .i64 al.length)],[(0,.optr [.nils,.nils])],1⟩ rfl ?_
     rw [show stripL [.osl 1 (kE (jZ fin al) fin fin.length).length (HL.bools (kE (jZ fin al) fin fin.length)),.osl 4 (rE (jZ fin al) al).length (recs aC (rE (jZ fin al) al))]=[.sl (kE (jZ fin al) fin fin.length).length (HL.bools (kE (jZ fin al) fin fin.length)),.sl (rE (jZ fin al) al).length (recs aC (rE (jZ fin al) al))] by simp [stripL,HV.strip,HL.bools_strip,jg]]
     repeat (first|refine ah ?_|refine dD ?_|refine af ?_|refine ay ?_|refine aB ?_|refine bD (by rfl) ?_|refine ax ?_|refine au ?_|refine ae ?_|refine aY ?_|refine bz ?_|refine dw ?_)
     refine az ?_
     exact ⟨_,_,rfl,rfl,by rw [ht];rfl⟩
 ·have ht:trimF fin al=([],[]):=by unfold trimF;rw [if_neg hv]
  rw [show okF fin al=false by simpa using hv]
  refine ⟨cO,_,_,_,_,_,gY,(by decide),bT,?_⟩
  repeat (first|refine af ?_|refine ak ?_|refine au ?_|refine ae ?_|refine iG (by rfl) ?_|refine dw ?_|refine dB ?_)
  refine gQ 16 [1,4] [2] (⟨[(2,.pref 0 [] 0)],[(0,.optr [.osl 1 0 [],.osl 4 0 []])],1⟩:St) rfl rfl ?_
  refine nC 0 [2] ⟨[(2,.pref 0 [] 0)],[(0,.optr [.sl 0 [],.sl 0 []])],1⟩ rfl rfl ?_
  refine az ?_
  exact ⟨_,_,rfl,rfl,by rw [ht];rfl⟩
end Go.Proofs.Ytlbdmpjnmfmnfaa
