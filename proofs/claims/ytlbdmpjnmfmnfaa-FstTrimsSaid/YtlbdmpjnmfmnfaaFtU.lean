import Derived.Test.YtlbdmpjnmfmnfaaFtT
import Derived.Test.YtlbdmpjnmfmnfaaHlRo
import Derived.Test.YtlbdmpjnmfmnfaaFs2
set_option linter.unusedSimpArgs false
set_option linter.unusedVariables false
namespace Go.Proofs.Ytlbdmpjnmfmnfaa
open Go.RowKit Go.HL Go.FS
theorem Np (ll:List (List Int)) (i n:Nat) (hi:i<n) (hl:ll.length=n) (hb:(ll.getD i []).length<=100000):HT Try.prog 69 [.int .i64 i,.ptr [.sl n (iT ll)] 0] (fun r=>r=.sl (ll.getD i []).length (HL.ints (ll.getD i []))):=by
 refine HT.of rfl aar (Nat.le_of_ble_eq_true rfl) ?_
 unfold c69
 simp only [aW,Nat.reduceAdd]
 repeat (first|refine ah ?_|refine aO ?_|refine di ?_|refine af ?_|refine au ?_|refine ae ?_|refine bT ?_)
 refine ay ?_
 rfl
theorem OU (ll:List (List Int)) (i n:Nat) (hi:i<n) (hl:ll.length=n) (hb:(ll.getD i []).length<=100000):HT Try.prog 71 [.int .i64 i,.ptr [.sl n (iT ll)] 0] (fun r=>r=.sl (ll.getD i []).length (HL.ints (ll.getD i []))):=by
 refine HT.of rfl aas (Nat.le_of_ble_eq_true rfl) ?_
 unfold c71
 simp only [aW,Nat.reduceAdd]
 repeat (first|refine ah ?_|refine aO ?_|refine di ?_|refine af ?_|refine au ?_|refine ae ?_|refine bT ?_)
 refine ay ?_
 rfl
theorem OX {al:List A} {p q:A->Int} {n:Nat} {L0:List Int} {S:Nat->Prop} (hp:∀a∈al,0<=p a/\p a<n) (hq:∀a∈al,0<=q a) (hS:∀i,S i <-> ∃j∈L0,j.toNat=i) {i:Nat}:Rn (fun i=>(fU p q n al).getD i []) L0 i <-> Rc al p q S i:=by
 constructor
 ·intro h
  induction h with
  | on hj=>exact .on ((hS _).2 ⟨_,hj,rfl⟩)
  | @step i j h1 hj ih =>
   by_cases hi:i<n
   ·obtain ⟨a,ha,h2,rfl⟩:=(qK hi).1 hj
    exact .step ha (by rw [h2];simpa using ih)
   ·have:(fU p q n al).getD i []=[]:=by simp [fU,hi]
    rw [this] at hj;cases hj
 ·intro h
  induction h with
  | on hs=>obtain ⟨j,hj,rfl⟩:=(hS _).1 hs;exact .on hj
  | @step a ha h1 ih =>
   have h2:=hp a ha
   refine .step ih ((qK (by omega)).2 ⟨a,ha,by omega,rfl⟩)
set_option maxHeartbeats 8000000 in
theorem IQ (fin:List Bool) (al:List A) (rb lb:List Bool) (hv:okF fin al=true) (hrl:rb.length=fin.length) (hll:lb.length=fin.length) (hrc:∀i,rb.getD i false=true <-> Rc al (·.f) (·.t) (·=0) i) (hlc:∀i,lb.getD i false=true <-> Rc al (·.t) (·.f) (fun j=>fin.getD j false=true) i) :
  hx Try.prog [.c Lr] (finish [2] (KC [.c 2 true 2] fun r=>r=.agg (fA (trimF fin al).1 (trimF fin al).2)))
   ⟨[(1,.ptr [.sl fin.length (HL.bools fin),.sl al.length (recs aC al)] 0),(2,.pref 0 [] 0),(7,.ref 1 [] 1 0 fin.length),(8,.ref 2 [] 1 0 fin.length)],[(0,.optr [.nils,.nils]),(1,.osl 1 fin.length (HL.bools rb)),(2,.osl 1 fin.length (HL.bools lb))],3⟩:=by
 obtain ⟨h1,h2,h3⟩:=jf hv
 have hkp:∀i,(rb.getD i false&&lb.getD i false)=fQ fin al i:=fun i=>by
  rw [Bool.eq_iff_iff,Bool.and_eq_true,kpF_iff,hrc,hlc]
 cases hb0:lb.getD 0 false with
 | false =>
  have ht:trimF fin al=([false],[]):=by
   unfold trimF
   rw [if_pos hv,if_neg (fun h=>by rw [(hlc 0).2 h] at hb0;cases hb0)]
  repeat (first|refine ah ?_|refine dC ?_|refine dU (by rfl) bn (by (try simp (disch:=omega) only [go_sem,reduceIte,Nat.reduceEqDiff,Nat.reduceAdd,Nat.reduceMul,hb0,Bool.not_false]);try rfl) aG (by (try simp (disch:=omega) only [go_sem,hb0,Bool.not_false]);try rfl) aJ ?_|refine af ?_|refine ak ?_|refine au ?_|refine ae ?_|refine je (by rfl) ?_|refine kF (by rfl) aJ aK jy kK (by rfl) kP (by rfl) kN (by (try simp (disch:=omega) only [go_sem,reduceIte,Nat.reduceEqDiff,Nat.reduceAdd,Nat.reduceMul,hb0,Bool.not_false]);try rfl) aG (by (try simp (disch:=omega) only [go_sem,hb0,Bool.not_false]);try rfl) aK jc ?_|refine bU ?_|refine bZ ?_)
  refine fF 0 [1,4] [2] (⟨[(2,.pref 0 [] 0)],[(0,.optr [.osl 1 1 [.bool false],.osl 4 0 []])],1⟩:St) rfl rfl ?_
  refine jW 0 [2] ⟨[(2,.pref 0 [] 0)],[(0,.optr [.sl 1 [.bool false],.sl 0 []])],1⟩ rfl rfl ?_
  refine ay ?_
  exact ⟨_,_,rfl,rfl,by rw [ht];rfl⟩
 | true =>
  have ht:trimF fin al=(gZ (fQ fin al) fin fin.length,jF (fQ fin al) al):=by
   unfold trimF
   rw [if_pos hv,if_pos ((hlc 0).1 hb0)]
  repeat (first|refine ah ?_|refine dC ?_|refine eG (by rfl) aG (by (try simp (disch:=omega) only [go_sem,hb0,Bool.not_true]);try rfl) ?_|refine dU (by rfl) bn (by (try simp (disch:=omega) only [go_sem,reduceIte,Nat.reduceEqDiff,Nat.reduceAdd,Nat.reduceMul,hb0,Bool.not_true]);try rfl) aG (by (try simp (disch:=omega) only [go_sem,hb0,Bool.not_true]);try rfl) aJ ?_|refine af ?_|refine aI ?_|refine ax ?_|refine au ?_|refine ae ?_|refine aA ?_|refine aF ?_|refine iJ (by rfl) ?_|refine aX ?_|refine bG dS ?_|refine nI dS (by rfl) (by omega) aK aK ?_)
  refine fF 147 [1,4] [1,2,7,8,9,10,86,87,88] (⟨[(1,.ptr [.sl fin.length (HL.bools fin),.sl al.length (recs aC al)] 0),(2,.pref 0 [] 0),(7,.ref 1 [] 1 0 fin.length),(8,.ref 2 [] 1 0 fin.length),(9,.ref 3 [] 1 0 fin.length),(10,.pref 4 [] 0),(86,.sl fin.length (HL.bools fin)),(87,.int .i64 fin.length),(88,.int .i64 0)],[(0,.optr [.nils,.nils]),(1,.osl 1 fin.length (HL.bools rb)),(2,.osl 1 fin.length (HL.bools lb)),(3,.osl 1 fin.length (HL.ints (List.replicate fin.length 0))),(4,.optr [.osl 1 0 [],.osl 4 0 []])],5⟩:St) rfl rfl ?_
  rw [<- y5 (k:=fQ fin al)]
  refine bW [1,2,7,8,9,10,86,87,88] (fun i:Nat=>i<=fin.length)
   (fun i=>⟨[(1,.ptr [.sl fin.length (HL.bools fin),.sl al.length (recs aC al)] 0),(2,.pref 0 [] 0),(7,.ref 1 [] 1 0 fin.length),(8,.ref 2 [] 1 0 fin.length),(9,.ref 3 [] 1 0 fin.length),(10,.pref 4 [] 0),(86,.sl fin.length (HL.bools fin)),(87,.int .i64 fin.length),(88,.int .i64 i)],[(0,.optr [.nils,.nils]),(1,.osl 1 fin.length (HL.bools rb)),(2,.osl 1 fin.length (HL.bools lb)),(3,.osl 1 fin.length (HL.ints (kw (fQ fin al) fin.length i))),(4,.optr [.osl 1 (gZ (fQ fin al) fin i).length (HL.bools (gZ (fQ fin al) fin i)),.osl 4 0 []])],5⟩)
   (fun i=>fin.length - i) 0 (by omega) rfl ?_
  intro i hi
  have hol:(kw (fQ fin al) fin.length i).length=fin.length:=sO
  by_cases hil:i<fin.length
  ·have hfl:(gZ (fQ fin al) fin i).length<=i:=by rw [kz];exact cnt_le
   have hki:=hkp i
   have hos:=y8 (k:=fQ fin al) hil
   unfold Dp at hos
   cases hr:rb.getD i false with
   | false =>
    have hk0:fQ fin al i=false:=by rw [<- hki,hr,Bool.false_and]
    have hf:=vJ (fin:=fin) hk0
    rw [hk0] at hos
    repeat (first|refine ah ?_|refine dn ?_|refine aO ?_|refine dC ?_|refine eG (by rfl) aG (by (try simp (disch:=omega) only [go_sem,hr]);try rfl) ?_|refine dU (by rfl) bn (by (try simp (disch:=omega) only [go_sem,reduceIte,Nat.reduceEqDiff,Nat.reduceAdd,Nat.reduceMul,hr]);try rfl) aG (by (try simp (disch:=omega) only [go_sem,hr]);try rfl) aJ ?_|refine af ?_|refine az ?_|refine aP ?_|refine gI (by rfl) (by rfl) (by (try simp (disch:=omega) only [go_sem,Int.reduceAdd,Int.reduceSub,Int.reduceMul,hr]);try rfl) ?_|refine ak ?_|refine ax ?_|refine au ?_|refine ae ?_|refine aA ?_|refine dL ?_|refine aF ?_|refine l9 (by rfl) aJ aK gy (by rfl) (by decide) bn aK aG (by (try simp (disch:=omega) only [go_sem,hr]);try rfl) aK ?_)
    exact dm [1,2,7,8,9,10,86,87,88] (i+1) hil (by omega) (by simp only [hf,<- hos];rfl)
   | true =>
    cases hl:lb.getD i false with
    | false =>
     have hk0:fQ fin al i=false:=by rw [<- hki,hl,Bool.and_false]
     have hf:=vJ (fin:=fin) hk0
     rw [hk0] at hos
     repeat (first|refine ah ?_|refine aN ?_|refine aO ?_|refine dC ?_|refine eG (by rfl) aG (by (try simp (disch:=omega) only [go_sem,hr,hl]);try rfl) ?_|refine dU (by rfl) bn (by (try simp (disch:=omega) only [go_sem,reduceIte,Nat.reduceEqDiff,Nat.reduceAdd,Nat.reduceMul,hr,hl]);try rfl) aG (by (try simp (disch:=omega) only [go_sem,hr,hl]);try rfl) aJ ?_|refine af ?_|refine az ?_|refine aV ?_|refine gI (by rfl) (by rfl) (by (try simp (disch:=omega) only [go_sem,Int.reduceAdd,Int.reduceSub,Int.reduceMul,hr,hl]);try rfl) ?_|refine ak ?_|refine ax ?_|refine au ?_|refine ae ?_|refine aA ?_|refine dL ?_|refine aF ?_|refine l9 (by rfl) aJ aK gy (by rfl) (by decide) bn aK aG (by (try simp (disch:=omega) only [go_sem,hr,hl]);try rfl) aK ?_)
     exact dm [1,2,7,8,9,10,86,87,88] (i+1) hil (by omega) (by simp only [hf,<- hos];rfl)
    | true =>
     have hk1:fQ fin al i=true:=by rw [<- hki,hr,hl];rfl
     have hf:=Cb (fin:=fin) hk1
     rw [hk1,if_pos rfl,<- kz (fin:=fin)] at hos
     have hss:((kw (fQ fin al) fin.length i).set i (-1)).set i ((gZ (fQ fin al) fin i).length:Int)=kw (fQ fin al) fin.length (i+1):=by rw [List.set_set];exact hos
     repeat (first|refine ah ?_|refine aN ?_|refine aO ?_|refine dC ?_|refine eG (by rfl) aG (by (try simp (disch:=omega) only [go_sem,hr,hl]);try rfl) ?_|refine dU (by rfl) bn (by (try simp (disch:=omega) only [go_sem,reduceIte,Nat.reduceEqDiff,Nat.reduceAdd,Nat.reduceMul,hr,hl]);try rfl) aG (by (try simp (disch:=omega) only [go_sem,hr,hl]);try rfl) aJ ?_|refine af ?_|refine az ?_|refine aV ?_|refine gI (by rfl) (by rfl) (by (try simp (disch:=omega) only [go_sem,Int.reduceAdd,Int.reduceSub,Int.reduceMul,hr,hl]);try rfl) ?_|refine dY (by rfl) ?_|refine ak ?_|refine au ?_|refine ae ?_|refine aA ?_|refine dL ?_|refine aF ?_|refine aB ?_|refine l9 (by rfl) aJ aK gy (by rfl) (by decide) bn aK aG (by (try simp (disch:=omega) only [go_sem,hr,hl]);try rfl) aK ?_|refine kF (by rfl) aJ aK jy kK (by rfl) kP (by rfl) kN (by (try simp (disch:=omega) only [go_sem,reduceIte,Nat.reduceEqDiff,Nat.reduceAdd,Nat.reduceMul,hr,hl]);try rfl) aG (by (try simp (disch:=omega) only [go_sem,hr,hl]);try rfl) aK jc ?_|refine bU ?_|refine kT dS (by rfl) aJ rD (by (try simp (disch:=omega) only [go_sem,reduceIte,Nat.reduceEqDiff,Nat.reduceAdd,Nat.reduceMul,hr,hl]);try omega) bn (by (try simp (disch:=omega) only [go_sem,reduceIte,Nat.reduceEqDiff,Nat.reduceAdd,Nat.reduceMul,hr,hl]);try rfl) dS (by omega) iH aG (by (try simp (disch:=omega) only [go_sem,reduceIte,Nat.reduceEqDiff,Nat.reduceAdd,Nat.reduceMul,hr,hl]);try rfl) aK ?_)
     exact dm [1,2,7,8,9,10,86,87,88] (i+1) hil (by omega) (by simp only [hf,<- hss,List.length_append,List.length_singleton];rfl)
  ·obtain rfl:i=fin.length:=by omega
   repeat (first|refine ah ?_|refine di ?_|refine af ?_|refine az ?_|refine aI ?_|refine bQ (by rfl) ?_|refine ax ?_|refine au ?_|refine ae ?_|refine aA ?_|refine aX ?_)
   have hEn:stripL (win (HL.ints (kw (fQ fin al) fin.length fin.length)) 0 (fin.length*1))=(HL.ints (kw (fQ fin al) fin.length fin.length)):=by rw [jO _ (by simp [HL.ints,sO]),HL.ints_strip]
   refine bg 3 [1,2,9,10,120,121,122] ⟨[(1,.ptr [.sl fin.length (HL.bools fin),.sl al.length (recs aC al)] 0),(2,.pref 0 [] 0),(9,.sl fin.length (HL.ints (kw (fQ fin al) fin.length fin.length))),(10,.pref 1 [] 0),(120,.sl al.length (recs aC al)),(121,.int .i64 al.length),(122,.int .i64 0)],[(0,.optr [.nils,.nils]),(1,.optr [.osl 1 (gZ (fQ fin al) fin fin.length).length (HL.bools (gZ (fQ fin al) fin fin.length)),.osl 4 0 []])],2⟩ (congrArg (fun c:List HV=>(⟨[(1,.ptr [.sl fin.length (HL.bools fin),.sl al.length (recs aC al)] 0),(2,.pref 0 [] 0),(9,.sl fin.length c),(10,.pref 1 [] 0),(120,.sl al.length (recs aC al)),(121,.int .i64 al.length),(122,.int .i64 0)],[(0,.optr [.nils,.nils]),(1,.optr [.osl 1 (gZ (fQ fin al) fin fin.length).length (HL.bools (gZ (fQ fin al) fin fin.length)),.osl 4 0 []])],2⟩:St)) hEn) ?_
   refine bW [1,2,9,10,120,121,122] (fun j:Nat=>j<=al.length) (fun j=>⟨[(1,.ptr [.sl fin.length (HL.bools fin),.sl al.length (recs aC al)] 0),(2,.pref 0 [] 0),(9,.sl fin.length (HL.ints (kw (fQ fin al) fin.length fin.length))),(10,.pref 1 [] 0),(120,.sl al.length (recs aC al)),(121,.int .i64 al.length),(122,.int .i64 j)],[(0,.optr [.nils,.nils]),(1,.optr [.osl 1 (gZ (fQ fin al) fin fin.length).length (HL.bools (gZ (fQ fin al) fin fin.length)),.osl 4 (jF (fQ fin al) (al.take j)).length (recs aC (jF (fQ fin al) (al.take j)))])],2⟩) (fun j=>al.length - j) 0 (by omega) rfl ?_
   intro j hj
   have hal:=tJ (k:=fQ fin al) (al.take j)
   rw [List.length_take] at hal
   by_cases hjl:j<al.length
   ·have haa:=eU hv (iY hjl)
    have hst:=yu (k:=fQ fin al) hjl
    have o1:=sZ (k:=fQ fin al) (show (al.getD j default).f.toNat<fin.length by omega)
    have o2:=sZ (k:=fQ fin al) (show (al.getD j default).t.toNat<fin.length by omega)
    unfold Dp at o1 o2
    have c1:=cnt_le (k:=fQ fin al) (i:=(al.getD j default).f.toNat)
    have c2:=cnt_le (k:=fQ fin al) (i:=(al.getD j default).t.toNat)
    cases hk1:fQ fin al (al.getD j default).f.toNat with
    | false =>
     rw [hk1] at o1 hst
     simp only [Bool.false_eq_true,if_false,Bool.false_and,List.append_nil] at o1 hst
     repeat (first|refine ah ?_|refine dn ?_|refine aO ?_|refine eG (by rfl) aG (by (try simp (disch:=omega) only [go_sem,o1]);try rfl) ?_|refine dU (by rfl) bn (by (try simp (disch:=omega) only [go_sem,reduceIte,Nat.reduceEqDiff,Nat.reduceAdd,Nat.reduceMul,o1]);try rfl) aG (by (try simp (disch:=omega) only [go_sem,o1]);try rfl) aJ ?_|refine af ?_|refine az ?_|refine aP ?_|refine gI (by rfl) (by rfl) (by (try simp (disch:=omega) only [go_sem,Int.reduceAdd,Int.reduceSub,Int.reduceMul,o1]);try rfl) ?_|refine ak ?_|refine ax ?_|refine au ?_|refine ae ?_|refine aA ?_|refine dL ?_|refine aF ?_|refine dP ?_|refine aB ?_|refine iq (by rfl) aG (by (try simp (disch:=omega) only [go_sem,reduceIte,Nat.reduceEqDiff,Nat.reduceAdd,Nat.reduceMul,o1]);try rfl) ?_|refine l9 (by rfl) aJ aK gy (by rfl) (by decide) bn aK aG (by (try simp (disch:=omega) only [go_sem,o1]);try rfl) aK ?_|refine bG dS ?_)
     exact dm [1,2,9,10,120,121,122] (j+1) hjl (by omega) (by simp only [hst];rfl)
    | true =>
     rw [hk1] at o1 hst
     simp only [if_true] at o1
     cases hk2:fQ fin al (al.getD j default).t.toNat with
     | false =>
      rw [hk2] at o2 hst
      simp only [Bool.false_eq_true,if_false,Bool.and_false,List.append_nil] at o2 hst
      repeat (first|refine ah ?_|refine aN ?_|refine aO ?_|refine eG (by rfl) aG (by (try simp (disch:=omega) only [go_sem,o1,o2]);try rfl) ?_|refine dU (by rfl) bn (by (try simp (disch:=omega) only [go_sem,reduceIte,Nat.reduceEqDiff,Nat.reduceAdd,Nat.reduceMul,o1,o2]);try rfl) aG (by (try simp (disch:=omega) only [go_sem,o1,o2]);try rfl) aJ ?_|refine af ?_|refine az ?_|refine aV ?_|refine gI (by rfl) (by rfl) (by (try simp (disch:=omega) only [go_sem,Int.reduceAdd,Int.reduceSub,Int.reduceMul,o1,o2]);try rfl) ?_|refine ak ?_|refine ax ?_|refine au ?_|refine ae ?_|refine aA ?_|refine dL ?_|refine aF ?_|refine dP ?_|refine aB ?_|refine iq (by rfl) aG (by (try simp (disch:=omega) only [go_sem,reduceIte,Nat.reduceEqDiff,Nat.reduceAdd,Nat.reduceMul,o1,o2]);try rfl) ?_|refine l9 (by rfl) aJ aK gy (by rfl) (by decide) bn aK aG (by (try simp (disch:=omega) only [go_sem,o1,o2]);try rfl) aK ?_|refine bG dS ?_)
      exact dm [1,2,9,10,120,121,122] (j+1) hjl (by omega) (by simp only [hst];rfl)
     | true =>
      rw [hk2] at o2 hst
      simp only [if_true,Bool.and_self] at o2 hst
      repeat (first|refine ah ?_|refine aN ?_|refine aO ?_|refine eG (by rfl) aG (by (try simp (disch:=omega) only [go_sem,o1,o2]);try rfl) ?_|refine dU (by rfl) bn (by (try simp (disch:=omega) only [go_sem,reduceIte,Nat.reduceEqDiff,Nat.reduceAdd,Nat.reduceMul,o1,o2]);try rfl) aG (by (try simp (disch:=omega) only [go_sem,o1,o2]);try rfl) aJ ?_|refine af ?_|refine az ?_|refine aV ?_|refine ak ?_|refine au ?_|refine ae ?_|refine aA ?_|refine aF ?_|refine dP ?_|refine aB ?_|refine iq (by rfl) aG (by (try simp (disch:=omega) only [go_sem,reduceIte,Nat.reduceEqDiff,Nat.reduceAdd,Nat.reduceMul,o1,o2]);try rfl) ?_|refine l9 (by rfl) aJ aK gy (by rfl) (by decide) bn aK aG (by (try simp (disch:=omega) only [go_sem,o1,o2]);try rfl) aK ?_|refine bG dS ?_)
      refine bg 50 [1,2,9,10,14,120,121,122] ⟨[(1,.ptr [.sl fin.length (HL.bools fin),.sl al.length (recs aC al)] 0),(2,.pref 0 [] 0),(9,.sl fin.length (HL.ints (kw (fQ fin al) fin.length fin.length))),(10,.pref 1 [] 0),(14,.ptr (aC (al.getD j default)) 0),(120,.sl al.length (recs aC al)),(121,.int .i64 al.length),(122,.int .i64 j)],[(0,.optr [.nils,.nils]),(1,.optr [.osl 1 (gZ (fQ fin al) fin fin.length).length (HL.bools (gZ (fQ fin al) fin fin.length)),.osl 4 (jF (fQ fin al) (al.take j)).length (recs aC (jF (fQ fin al) (al.take j)))])],2⟩ rfl ?_
      unfold LG
      refine ji [9,14] [] aY aY (fun _ _ _=>False) (by simp [aT,HV.deep,bz,jP,aC]) (by simp) ?_
      simp only [aC]
      repeat (first|refine ah ?_|refine aO ?_|refine eG (by rfl) aG (by (try simp (disch:=omega) only [go_sem,o1,o2]);try rfl) ?_|refine dU (by rfl) bn (by (try simp (disch:=omega) only [go_sem,reduceIte,Nat.reduceEqDiff,Nat.reduceAdd,Nat.reduceMul,o1,o2]);try rfl) aG (by (try simp (disch:=omega) only [go_sem,o1,o2]);try rfl) aJ ?_|refine af ?_|refine gI (by rfl) (by rfl) (by (try simp (disch:=omega) only [go_sem,Int.reduceAdd,Int.reduceSub,Int.reduceMul,o1,o2]);try rfl) ?_|refine ae ?_|refine dL ?_|refine aX ?_|refine aB ?_|refine kF (by rfl) aJ aK jy kK (by rfl) kP (by rfl) kN (by (try simp (disch:=omega) only [go_sem,reduceIte,Nat.reduceEqDiff,Nat.reduceAdd,Nat.reduceMul,o1,o2]);try rfl) aG (by (try simp (disch:=omega) only [go_sem,o1,o2]);try rfl) aK jc ?_|refine bU ?_|refine kT dS (by rfl) aJ rD (by (try simp (disch:=omega) only [go_sem,reduceIte,Nat.reduceEqDiff,Nat.reduceAdd,Nat.reduceMul,o1,o2]);try omega) bn (by (try simp (disch:=omega) only [go_sem,reduceIte,Nat.reduceEqDiff,Nat.reduceAdd,Nat.reduceMul,o1,o2]);try rfl) dS (by omega) iH aG (by (try simp (disch:=omega) only [go_sem,reduceIte,Nat.reduceEqDiff,Nat.reduceAdd,Nat.reduceMul,o1,o2]);try rfl) aK ?_|refine bZ ?_)
      exact dm [1,2,9,10,120,121,122] (j+1) hjl (by omega) (by simp only [hst,List.length_append,List.length_singleton];rfl)
   ·obtain rfl:j=al.length:=by omega
    rw [List.take_length]
    refine bg 1 [1,2,10,120,121,122] ⟨[(1,.ptr [.sl fin.length (HL.bools fin),.sl al.length (recs aC al)] 0),(2,.pref 0 [] 0),(10,.ptr (stripL [.osl 1 (gZ (fQ fin al) fin fin.length).length (HL.bools (gZ (fQ fin al) fin fin.length)),.osl 4 (jF (fQ fin al) al).length (recs aC (jF (fQ fin al) al))]) 0),(120,.sl al.length (recs aC al)),(121,.int .i64 al.length),(122,.int .i64 al.length)],[(0,.optr [.nils,.nils])],1⟩ rfl ?_
    rw [jm]
    repeat (first|refine af ?_|refine az ?_|refine bQ (by rfl) ?_|refine ax ?_|refine au ?_|refine ae ?_|refine aZ ?_|refine cu ?_)
    refine ay ?_
    exact ⟨_,_,rfl,rfl,by rw [ht];rfl⟩
set_option maxHeartbeats 8000000 in
theorem vU (fin:List Bool) (al:List A) (hf:fin.length<=9223372036854775807) (ha:al.length<=9223372036854775807):HT Try.prog 25 [.agg (fA fin al)] (fun r=>r=.agg (fA (trimF fin al).1 (trimF fin al).2)):=by
 refine HT.ofC rfl ZX [2] rfl (Nat.le_of_ble_eq_true rfl) ?_
 unfold c25
 have hvd:=kD fin al hf ha
 simp only [aW,Nat.reduceAdd]
 simp only [fA,iw] at hvd ⊢
 repeat (first|refine af ?_|refine au ?_|refine ae ?_|refine fZ ?_|refine dD ?_|refine bG dS ?_)
 refine dG bK dh (hvd) ?_
 rintro _ rfl
 by_cases hv:okF fin al=true
 ·rw [hv]
  refine ⟨bP,_,_,_,_,_,gU,(by decide),bJ,?_⟩
  obtain ⟨h1,h2,h3⟩:=jf hv
  repeat (first|refine ah ?_|refine aU ?_|refine af ?_|refine aI ?_|refine ax ?_|refine au ?_|refine ae ?_|refine aA ?_|refine aF ?_|refine iJ (by rfl) ?_|refine aB ?_|refine cu ?_|refine bG dS ?_|refine nI dS (by rfl) (by omega) aK aK ?_)
  refine bg 0 [1,2,3,4,28,29,30] ⟨[(1,.ptr (stripL [.sl fin.length (HL.bools fin),.sl al.length (recs aC al)]) 0),(2,.pref 0 [] 0),(3,.pref 1 [] 0),(4,.pref 2 [] 0),(28,.sl al.length (recs aC al)),(29,.int .i64 al.length),(30,.int .i64 0)],[(0,.optr [.nils,.nils]),(1,.optr [.osl 1 fin.length (iO (List.replicate fin.length []))]),(2,.optr [.osl 1 fin.length (iO (List.replicate fin.length []))])],3⟩ rfl ?_
  rw [iU]
  refine bW [1,2,3,4,28,29,30] (fun k:Nat=>k<=al.length)
   (fun k=>⟨[(1,.ptr [.sl fin.length (HL.bools fin),.sl al.length (recs aC al)] 0),(2,.pref 0 [] 0),(3,.pref 1 [] 0),(4,.pref 2 [] 0),(28,.sl al.length (recs aC al)),(29,.int .i64 al.length),(30,.int .i64 k)],[(0,.optr [.nils,.nils]),(1,.optr [.osl 1 fin.length (iO (fU (·.f) (·.t) fin.length (al.take k)))]),(2,.optr [.osl 1 fin.length (iO (fU (·.t) (·.f) fin.length (al.take k)))])],3⟩)
   (fun k=>al.length - k) 0 (by omega) (by simp only [List.take_zero,GU];rfl) ?_
  intro k hk
  by_cases hkl:k<al.length
  ·have haa:=eU hv (iY hkl)
   have htk:=dA hkl
   have hr1:=qU (·.f) (·.t) fin.length (al.take k)
   have hr2:=qU (·.t) (·.f) fin.length (al.take k)
   have hb1:((fU (·.f) (·.t) fin.length (al.take k)).getD (al.getD k default).f.toNat []).length<=100000:=Nat.le_trans qR (by rw [List.length_take];omega)
   have hb2:((fU (·.t) (·.f) fin.length (al.take k)).getD (al.getD k default).t.toNat []).length<=100000:=Nat.le_trans qR (by rw [List.length_take];omega)
   have hs1:=wX (p:=(·.f)) (q:=(·.t)) (n:=fin.length) (l:=al.take k) (a:=al.getD k default) (j:=(al.getD k default).f.toNat) (by omega)
   have hs2:=wX (p:=(·.t)) (q:=(·.f)) (n:=fin.length) (l:=al.take k) (a:=al.getD k default) (j:=(al.getD k default).t.toNat) (by omega)
   rw [<- htk] at hs1 hs2
   refine au ?_
   refine ae ?_
   repeat (first|refine af ?_|refine az ?_)
   refine au ?_
   refine ak ?_
   refine aF ?_
   refine au ?_
   refine aA ?_
   refine au ?_
   refine ae ?_
   repeat (first|refine aO ?_|refine af ?_|refine aZ ?_|refine cZ ?_|refine bG dS ?_)
   refine bg 51 [1,2,3,4,6,28,29,30] ⟨[(1,.ptr [.sl fin.length (HL.bools fin),.sl al.length (recs aC al)] 0),(2,.pref 0 [] 0),(3,.pref 1 [] 0),(4,.pref 2 [] 0),(6,.ptr (aC (al.getD k default)) 0),(28,.sl al.length (recs aC al)),(29,.int .i64 al.length),(30,.int .i64 k)],[(0,.optr [.nils,.nils]),(1,.optr [.osl 1 fin.length (iO (fU (·.f) (·.t) fin.length (al.take k)))]),(2,.optr [.osl 1 fin.length (iO (fU (·.t) (·.f) fin.length (al.take k)))])],3⟩ rfl ?_
   refine IM (x:=.skip) (a:=al.getD k default) hr1 haa.1 haa.2.1 hb1 hs1 ?_
   refine IA (a:=al.getD k default) hr2 haa.2.2.1 haa.2.2.2.1 hb2 hs2 ?_
   repeat (first|refine ah ?_|refine af ?_|refine bY ?_|refine ae ?_)
   exact dm [1,2,3,4,28,29,30] (k+1) hkl (by omega) rfl
  ·obtain rfl:k=al.length:=by omega
   rw [List.take_length]
   have hr1:=qU (·.f) (·.t) fin.length al
   have hr2:=qU (·.t) (·.f) fin.length al
   refine bg 1 [1,2,3,4,28,29,30] ⟨[(1,.ptr [.sl fin.length (HL.bools fin),.sl al.length (recs aC al)] 0),(2,.pref 0 [] 0),(3,.ptr (stripL [.osl 1 fin.length (iO (fU (·.f) (·.t) fin.length al))]) 0),(4,.pref 1 [] 0),(28,.sl al.length (recs aC al)),(29,.int .i64 al.length),(30,.int .i64 al.length)],[(0,.optr [.nils,.nils]),(1,.optr [.osl 1 fin.length (iO (fU (·.t) (·.f) fin.length al))])],2⟩ rfl ?_
   rw [show stripL [.osl 1 fin.length (iO (fU (·.f) (·.t) fin.length al))]=[.sl fin.length (iT (fU (·.f) (·.t) fin.length al))] by simp only [stripL,HV.strip,xJ]]
   refine bg 1 [1,2,3,4,28,29,30] ⟨[(1,.ptr [.sl fin.length (HL.bools fin),.sl al.length (recs aC al)] 0),(2,.pref 0 [] 0),(3,.ptr [.sl fin.length (iT (fU (·.f) (·.t) fin.length al))] 0),(4,.ptr (stripL [.osl 1 fin.length (iO (fU (·.t) (·.f) fin.length al))]) 0),(28,.sl al.length (recs aC al)),(29,.int .i64 al.length),(30,.int .i64 al.length)],[(0,.optr [.nils,.nils])],1⟩ rfl ?_
   rw [show stripL [.osl 1 fin.length (iO (fU (·.t) (·.f) fin.length al))]=[.sl fin.length (iT (fU (·.t) (·.f) fin.length al))] by simp only [stripL,HV.strip,xJ]]
   have hin1:∀i,i<fin.length->∀j∈(fU (·.f) (·.t) fin.length al).getD i [],0<=j/\j<fin.length:=fun i hi j hj=>by
    obtain ⟨a,ha,_,rfl⟩:=(qK hi).1 hj
    have:=eU hv ha;omega
   have hin2:∀i,i<fin.length->∀j∈(fU (·.t) (·.f) fin.length al).getD i [],0<=j/\j<fin.length:=fun i hi j hj=>by
    obtain ⟨a,ha,_,rfl⟩:=(qK hi).1 hj
    have:=eU hv ha;omega
   have hle1:∀i,((fU (·.f) (·.t) fin.length al).getD i []).length<=8192:=fun i=>Nat.le_trans qR h3
   have hle2:∀i,((fU (·.t) (·.f) fin.length al).getD i []).length<=8192:=fun i=>Nat.le_trans qR h3
   have hw1:=CY 69 [.sl fin.length (iT (fU (·.f) (·.t) fin.length al))] fin.length 8192 (fun i=>(fU (·.f) (·.t) fin.length al).getD i []) [0] h2 (fun i _=>hle1 i) (by omega) (by simp) hin1 (by simp;omega) (fun i hi=>Np _ i fin.length hi hr1 (Nat.le_trans (hle1 i) (by decide)))
   have hfl:=xB fin fin.length
   have hw2:=CY 71 [.sl fin.length (iT (fU (·.t) (·.f) fin.length al))] fin.length 8192 (fun i=>(fU (·.t) (·.f) fin.length al).getD i []) (oM fin fin.length) h2 (fun i _=>hle2 i) (by omega) (by omega) hin2 (fun j hj=>by have:=mem_finL.1 hj;have h5:=sW this;exact ⟨this.1,h5⟩) (fun i hi=>OU _ i fin.length hi hr2 (Nat.le_trans (hle2 i) (by decide)))
   have hfin:=yF fin (by omega)
   repeat (first|refine di ?_|refine af ?_|refine az ?_|refine aI ?_|refine bQ (by rfl) ?_|refine ax ?_|refine au ?_|refine ae ?_|refine aX ?_|refine bU ?_)
   refine vZ bK ?_
   skip
   refine sV [] [] bK zq OV rfl (by decide) (hw1) ?_
   rintro _ outs ⟨rb,rfl,hrl,hrc⟩ hol
   obtain rfl:=List.eq_nil_of_length_eq_zero hol
   refine ⟨_,_,_,_,_,gU,(by decide),Ai,?_⟩
   repeat (first|refine ah ?_|refine af ?_)
   refine gQ [1,2,4,7] ⟨[(1,.ptr [.sl fin.length (HL.bools fin),.sl al.length (recs aC al)] 0),(2,.pref 0 [] 0),(4,.ptr [.sl fin.length (iT (fU (·.t) (·.f) fin.length al))] 0),(7,.ref 1 [] 1 0 fin.length)],[(0,.optr [.nils,.nils]),(1,.osl 1 fin.length (HL.bools rb))],2⟩ rfl ?_
   refine au ?_
   refine IB 7 [1,4] [] aY aY aY (fun _ _ r=>r=.osl 1 (oM fin fin.length).length (HL.ints (oM fin fin.length))) (by simp [aT,HV.deep,bz,ig,iM,Nk]) (by simp) ?_
   repeat (first|refine di ?_|refine aI ?_|refine aX ?_)
   refine dK bK dh hfin ⟨_,rfl,by simp [HV.deep,jP]⟩ ?_
   rintro _ rfl -
   refine ⟨bP,_,_,_,_,_,gU,(by decide),bJ,?_⟩
   skip
   refine vZ bK ?_
   repeat (first|refine af ?_|refine ae ?_)
   simp only [List.drop_succ_cons,List.drop_zero]
   refine sV [] [] bK zq OV rfl (by decide) (hw2) ?_
   rintro _ outs ⟨lb,rfl,hll,hlc⟩ hol
   obtain rfl:=List.eq_nil_of_length_eq_zero hol
   refine ⟨_,_,_,_,_,gU,(by decide),Ai,?_⟩
   repeat (first|refine ah ?_|refine af ?_)
   refine gQ [1,2,7,8] ⟨[(1,.ptr [.sl fin.length (HL.bools fin),.sl al.length (recs aC al)] 0),(2,.pref 0 [] 0),(7,.ref 1 [] 1 0 fin.length),(8,.ref 2 [] 1 0 fin.length)],[(0,.optr [.nils,.nils]),(1,.osl 1 fin.length (HL.bools rb)),(2,.osl 1 fin.length (HL.bools lb))],3⟩ rfl ?_
   have hrc':∀i,rb.getD i false=true <-> Rc al (·.f) (·.t) (·=0) i:=fun i=>(hrc i).trans (OX (fun a ha=>by have:=eU hv ha;omega) (fun a ha=>by have:=eU hv ha;omega) (fun i=>⟨fun h=>⟨0,by simp,by simpa using h.symm⟩,fun ⟨j,hj,h⟩=>by simp at hj;subst hj;simpa using h.symm⟩))
   have hlc':∀i,lb.getD i false=true <-> Rc al (·.t) (·.f) (fun j=>fin.getD j false=true) i:=fun i=>(hlc i).trans (OX (fun a ha=>by have:=eU hv ha;omega) (fun a ha=>by have:=eU hv ha;omega) (fun i=>⟨fun h=>⟨(i:Int),mem_finL.2 ⟨by omega,by simpa using h⟩,by simp⟩,fun ⟨j,hj,h⟩=>by subst h;exact (mem_finL.1 hj).2⟩))
   exact IQ fin al rb lb hv hrl hll hrc' hlc'
 ·have ht:trimF fin al=([],[]):=by unfold trimF;rw [if_neg hv]
  rw [show okF fin al=false by simpa using hv]
  refine ⟨bP,_,_,_,_,_,gU,(by decide),bJ,?_⟩
  repeat (first|refine af ?_|refine ak ?_|refine au ?_|refine ae ?_|refine je (by rfl) ?_|refine cu ?_|refine bZ ?_)
  refine fF 16 [1,4] [2] (⟨[(2,.pref 0 [] 0)],[(0,.optr [.osl 1 0 [],.osl 4 0 []])],1⟩:St) rfl rfl ?_
  refine jW 0 [2] ⟨[(2,.pref 0 [] 0)],[(0,.optr [.sl 0 [],.sl 0 []])],1⟩ rfl rfl ?_
  refine ay ?_
  exact ⟨_,_,rfl,rfl,by rw [ht];rfl⟩
end Go.Proofs.Ytlbdmpjnmfmnfaa
