import Derived.Test.YtlbdmpjnmfmnfaaFtT
import Derived.Test.YtlbdmpjnmfmnfaaHlRo
import Derived.Test.YtlbdmpjnmfmnfaaFs2
set_option linter.unusedSimpArgs false
set_option linter.unusedVariables false
namespace Go.Proofs.Ytlbdmpjnmfmnfaa
open Go.RowKit Go.HL Go.FS
theorem Rj (ll:List (List Int)) (i n:Nat) (hi:i<n) (hl:ll.length=n) (hb:(ll.getD i []).length<=100000):HT Try.prog 69 [.int .i64 i,.ptr [.sl n (iT ll)] 0] (fun r=>r=.sl (ll.getD i []).length (HL.ints (ll.getD i []))):=by
 refine HT.of rfl adG (Nat.le_of_ble_eq_true rfl) ?_
 unfold c69
 simp only [aY,Nat.reduceAdd]
 repeat (first|refine ah ?_|refine aU ?_|refine bZ ?_|refine af ?_|refine ak ?_|refine ae ?_|refine bU ?_)
 refine ay ?_
 rfl
theorem SN (ll:List (List Int)) (i n:Nat) (hi:i<n) (hl:ll.length=n) (hb:(ll.getD i []).length<=100000):HT Try.prog 71 [.int .i64 i,.ptr [.sl n (iT ll)] 0] (fun r=>r=.sl (ll.getD i []).length (HL.ints (ll.getD i []))):=by
 refine HT.of rfl aex (Nat.le_of_ble_eq_true rfl) ?_
 unfold c71
 simp only [aY,Nat.reduceAdd]
 repeat (first|refine ah ?_|refine aU ?_|refine bZ ?_|refine af ?_|refine ak ?_|refine ae ?_|refine bU ?_)
 refine ay ?_
 rfl
theorem Un {al:List A} {p q:A->Int} {n:Nat} {L0:List Int} {S:Nat->Prop} (hp:∀a∈al,0<=p a/\p a<n) (hq:∀a∈al,0<=q a) (hS:∀i,S i <-> ∃j∈L0,j.toNat=i) {i:Nat}:Rn (fun i=>(gy p q n al).getD i []) L0 i <-> Rc al p q S i:=by
 constructor
 ·intro h
  induction h with
  | on hj=>exact .on ((hS _).2 ⟨_,hj,rfl⟩)
  | @step i j h1 hj ih =>
   by_cases hi:i<n
   ·obtain ⟨a,ha,h2,rfl⟩:=(sO hi).1 hj
    exact .step ha (by rw [h2];simpa using ih)
   ·have:(gy p q n al).getD i []=[]:=by simp [gy,hi]
    rw [this] at hj;cases hj
 ·intro h
  induction h with
  | on hs=>obtain ⟨j,hj,rfl⟩:=(hS _).1 hs;exact .on hj
  | @step a ha h1 ih =>
   have h2:=hp a ha
   refine .step ih ((sO (by omega)).2 ⟨a,ha,by omega,rfl⟩)
set_option maxHeartbeats 8000000 in
theorem MH (fin:List Bool) (al:List A) (rb lb:List Bool) (hv:okF fin al=true) (hrl:rb.length=fin.length) (hll:lb.length=fin.length) (hrc:∀i,rb.getD i false=true <-> Rc al (·.f) (·.t) (·=0) i) (hlc:∀i,lb.getD i false=true <-> Rc al (·.t) (·.f) (fun j=>fin.getD j false=true) i) :
  hx Try.prog [.c Qr] (finish [2] (KC [.c 2 true 2] fun r=>r=.agg (iC (trimF fin al).1 (trimF fin al).2)))
   ⟨[(1,.ptr [.sl fin.length (HL.bools fin),.sl al.length (recs aC al)] 0),(2,.pref 0 [] 0),(7,.ref 1 [] 1 0 fin.length),(8,.ref 2 [] 1 0 fin.length)],[(0,.optr [.nils,.nils]),(1,.osl 1 fin.length (HL.bools rb)),(2,.osl 1 fin.length (HL.bools lb))],3⟩:=by
 obtain ⟨h1,h2,h3⟩:=dR hv
 have hkp:∀i,(rb.getD i false&&lb.getD i false)=jZ fin al i:=fun i=>by
  rw [Bool.eq_iff_iff,Bool.and_eq_true,kpF_iff,hrc,hlc]
 cases hb0:lb.getD 0 false with
 | false =>
  have ht:trimF fin al=([false],[]):=by
   unfold trimF
   rw [if_pos hv,if_neg (fun h=>by rw [(hlc 0).2 h] at hb0;cases hb0)]
  repeat (first|refine ah ?_|refine gG ?_|refine gJ (by rfl) bV (by (try simp (disch:=omega) only [go_sem,reduceIte,Nat.reduceEqDiff,Nat.reduceAdd,Nat.reduceMul,hb0,Bool.not_false]);try rfl) aW (by (try simp (disch:=omega) only [go_sem,hb0,Bool.not_false]);try rfl) aV ?_|refine af ?_|refine ax ?_|refine ak ?_|refine ae ?_|refine iI (by rfl) ?_|refine lY (by rfl) aV aP jG mD (by rfl) mO (by rfl) mV (by (try simp (disch:=omega) only [go_sem,reduceIte,Nat.reduceEqDiff,Nat.reduceAdd,Nat.reduceMul,hb0,Bool.not_false]);try rfl) aW (by (try simp (disch:=omega) only [go_sem,hb0,Bool.not_false]);try rfl) aP jM ?_|refine bQ ?_|refine di ?_)
  refine fD 0 [1,4] [2] (⟨[(2,.pref 0 [] 0)],[(0,.optr [.osl 1 1 [.bool false],.osl 4 0 []])],1⟩:St) rfl rfl ?_
  refine jR 0 [2] ⟨[(2,.pref 0 [] 0)],[(0,.optr [.sl 1 [.bool false],.sl 0 []])],1⟩ rfl rfl ?_
  refine ay ?_
  exact ⟨_,_,rfl,rfl,by rw [ht];rfl⟩
 | true =>
  have ht:trimF fin al=(lL (jZ fin al) fin fin.length,qG (jZ fin al) al):=by
   unfold trimF
   rw [if_pos hv,if_pos ((hlc 0).1 hb0)]
  repeat (first|refine ah ?_|refine gG ?_|refine jb (by rfl) aW (by (try simp (disch:=omega) only [go_sem,hb0,Bool.not_true]);try rfl) ?_|refine gJ (by rfl) bV (by (try simp (disch:=omega) only [go_sem,reduceIte,Nat.reduceEqDiff,Nat.reduceAdd,Nat.reduceMul,hb0,Bool.not_true]);try rfl) aW (by (try simp (disch:=omega) only [go_sem,hb0,Bool.not_true]);try rfl) aV ?_|refine af ?_|refine aQ ?_|refine au ?_|refine ak ?_|refine ae ?_|refine aB ?_|refine aF ?_|refine gW (by rfl) ?_|refine dE ?_|refine bP eH ?_|refine qU eH (by rfl) (by omega) aP aP ?_)
  refine fD 147 [1,4] [1,2,7,8,9,10,86,87,88] (⟨[(1,.ptr [.sl fin.length (HL.bools fin),.sl al.length (recs aC al)] 0),(2,.pref 0 [] 0),(7,.ref 1 [] 1 0 fin.length),(8,.ref 2 [] 1 0 fin.length),(9,.ref 3 [] 1 0 fin.length),(10,.pref 4 [] 0),(86,.sl fin.length (HL.bools fin)),(87,.int .i64 fin.length),(88,.int .i64 0)],[(0,.optr [.nils,.nils]),(1,.osl 1 fin.length (HL.bools rb)),(2,.osl 1 fin.length (HL.bools lb)),(3,.osl 1 fin.length (HL.ints (List.replicate fin.length 0))),(4,.optr [.osl 1 0 [],.osl 4 0 []])],5⟩:St) rfl rfl ?_
  rw [<- LU (k:=jZ fin al)]
  refine cu [1,2,7,8,9,10,86,87,88] (fun i:Nat=>i<=fin.length)
   (fun i=>⟨[(1,.ptr [.sl fin.length (HL.bools fin),.sl al.length (recs aC al)] 0),(2,.pref 0 [] 0),(7,.ref 1 [] 1 0 fin.length),(8,.ref 2 [] 1 0 fin.length),(9,.ref 3 [] 1 0 fin.length),(10,.pref 4 [] 0),(86,.sl fin.length (HL.bools fin)),(87,.int .i64 fin.length),(88,.int .i64 i)],[(0,.optr [.nils,.nils]),(1,.osl 1 fin.length (HL.bools rb)),(2,.osl 1 fin.length (HL.bools lb)),(3,.osl 1 fin.length (HL.ints (oZ (jZ fin al) fin.length i))),(4,.optr [.osl 1 (lL (jZ fin al) fin i).length (HL.bools (lL (jZ fin al) fin i)),.osl 4 0 []])],5⟩)
   (fun i=>fin.length - i) 0 (by omega) rfl ?_
  intro i hi
  have hol:(oZ (jZ fin al) fin.length i).length=fin.length:=DU
  by_cases hil:i<fin.length
  ·have hfl:(lL (jZ fin al) fin i).length<=i:=by rw [oM];exact cnt_le
   have hki:=hkp i
   have hos:=LD (k:=jZ fin al) hil
   unfold Ox at hos
   cases hr:rb.getD i false with
   | false =>
    have hk0:jZ fin al i=false:=by rw [<- hki,hr,Bool.false_and]
    have hf:=Jg (fin:=fin) hk0
    rw [hk0] at hos
    repeat (first|refine ah ?_|refine dH ?_|refine aU ?_|refine gG ?_|refine jb (by rfl) aW (by (try simp (disch:=omega) only [go_sem,hr]);try rfl) ?_|refine gJ (by rfl) bV (by (try simp (disch:=omega) only [go_sem,reduceIte,Nat.reduceEqDiff,Nat.reduceAdd,Nat.reduceMul,hr]);try rfl) aW (by (try simp (disch:=omega) only [go_sem,hr]);try rfl) aV ?_|refine af ?_|refine az ?_|refine aO ?_|refine jL (by rfl) (by rfl) (by (try simp (disch:=omega) only [go_sem,Int.reduceAdd,Int.reduceSub,Int.reduceMul,hr]);try rfl) ?_|refine ax ?_|refine au ?_|refine ak ?_|refine ae ?_|refine aB ?_|refine fK ?_|refine aF ?_|refine uy (by rfl) aV aP ja (by rfl) (by decide) bV aP aW (by (try simp (disch:=omega) only [go_sem,hr]);try rfl) aP ?_)
    exact dB [1,2,7,8,9,10,86,87,88] (i+1) hil (by omega) (by simp only [hf,<- hos];rfl)
   | true =>
    cases hl:lb.getD i false with
    | false =>
     have hk0:jZ fin al i=false:=by rw [<- hki,hl,Bool.and_false]
     have hf:=Jg (fin:=fin) hk0
     rw [hk0] at hos
     repeat (first|refine ah ?_|refine aK ?_|refine aU ?_|refine gG ?_|refine jb (by rfl) aW (by (try simp (disch:=omega) only [go_sem,hr,hl]);try rfl) ?_|refine gJ (by rfl) bV (by (try simp (disch:=omega) only [go_sem,reduceIte,Nat.reduceEqDiff,Nat.reduceAdd,Nat.reduceMul,hr,hl]);try rfl) aW (by (try simp (disch:=omega) only [go_sem,hr,hl]);try rfl) aV ?_|refine af ?_|refine az ?_|refine aS ?_|refine jL (by rfl) (by rfl) (by (try simp (disch:=omega) only [go_sem,Int.reduceAdd,Int.reduceSub,Int.reduceMul,hr,hl]);try rfl) ?_|refine ax ?_|refine au ?_|refine ak ?_|refine ae ?_|refine aB ?_|refine fK ?_|refine aF ?_|refine uy (by rfl) aV aP ja (by rfl) (by decide) bV aP aW (by (try simp (disch:=omega) only [go_sem,hr,hl]);try rfl) aP ?_)
     exact dB [1,2,7,8,9,10,86,87,88] (i+1) hil (by omega) (by simp only [hf,<- hos];rfl)
    | true =>
     have hk1:jZ fin al i=true:=by rw [<- hki,hr,hl];rfl
     have hf:=NL (fin:=fin) hk1
     rw [hk1,if_pos rfl,<- oM (fin:=fin)] at hos
     have hss:((oZ (jZ fin al) fin.length i).set i (-1)).set i ((lL (jZ fin al) fin i).length:Int)=oZ (jZ fin al) fin.length (i+1):=by rw [List.set_set];exact hos
     repeat (first|refine ah ?_|refine aK ?_|refine aU ?_|refine gG ?_|refine jb (by rfl) aW (by (try simp (disch:=omega) only [go_sem,hr,hl]);try rfl) ?_|refine gJ (by rfl) bV (by (try simp (disch:=omega) only [go_sem,reduceIte,Nat.reduceEqDiff,Nat.reduceAdd,Nat.reduceMul,hr,hl]);try rfl) aW (by (try simp (disch:=omega) only [go_sem,hr,hl]);try rfl) aV ?_|refine af ?_|refine az ?_|refine aS ?_|refine jL (by rfl) (by rfl) (by (try simp (disch:=omega) only [go_sem,Int.reduceAdd,Int.reduceSub,Int.reduceMul,hr,hl]);try rfl) ?_|refine fF (by rfl) ?_|refine ax ?_|refine ak ?_|refine ae ?_|refine aB ?_|refine fK ?_|refine aF ?_|refine aI ?_|refine uy (by rfl) aV aP ja (by rfl) (by decide) bV aP aW (by (try simp (disch:=omega) only [go_sem,hr,hl]);try rfl) aP ?_|refine lY (by rfl) aV aP jG mD (by rfl) mO (by rfl) mV (by (try simp (disch:=omega) only [go_sem,reduceIte,Nat.reduceEqDiff,Nat.reduceAdd,Nat.reduceMul,hr,hl]);try rfl) aW (by (try simp (disch:=omega) only [go_sem,hr,hl]);try rfl) aP jM ?_|refine bQ ?_|refine lD eH (by rfl) aV uS (by (try simp (disch:=omega) only [go_sem,reduceIte,Nat.reduceEqDiff,Nat.reduceAdd,Nat.reduceMul,hr,hl]);try omega) bV (by (try simp (disch:=omega) only [go_sem,reduceIte,Nat.reduceEqDiff,Nat.reduceAdd,Nat.reduceMul,hr,hl]);try rfl) eH (by omega) iU aW (by (try simp (disch:=omega) only [go_sem,reduceIte,Nat.reduceEqDiff,Nat.reduceAdd,Nat.reduceMul,hr,hl]);try rfl) aP ?_)
     exact dB [1,2,7,8,9,10,86,87,88] (i+1) hil (by omega) (by simp only [hf,<- hss,List.length_append,List.length_singleton];rfl)
  ·obtain rfl:i=fin.length:=by omega
   repeat (first|refine ah ?_|refine bZ ?_|refine af ?_|refine az ?_|refine aQ ?_|refine bK (by rfl) ?_|refine au ?_|refine ak ?_|refine ae ?_|refine aB ?_|refine dE ?_)
   have hEn:stripL (win (HL.ints (oZ (jZ fin al) fin.length fin.length)) 0 (fin.length*1))=(HL.ints (oZ (jZ fin al) fin.length fin.length)):=by rw [jc _ (by simp [HL.ints,DU]),HL.ints_strip]
   refine bg 3 [1,2,9,10,120,121,122] ⟨[(1,.ptr [.sl fin.length (HL.bools fin),.sl al.length (recs aC al)] 0),(2,.pref 0 [] 0),(9,.sl fin.length (HL.ints (oZ (jZ fin al) fin.length fin.length))),(10,.pref 1 [] 0),(120,.sl al.length (recs aC al)),(121,.int .i64 al.length),(122,.int .i64 0)],[(0,.optr [.nils,.nils]),(1,.optr [.osl 1 (lL (jZ fin al) fin fin.length).length (HL.bools (lL (jZ fin al) fin fin.length)),.osl 4 0 []])],2⟩ (congrArg (fun c:List HV=>(⟨[(1,.ptr [.sl fin.length (HL.bools fin),.sl al.length (recs aC al)] 0),(2,.pref 0 [] 0),(9,.sl fin.length c),(10,.pref 1 [] 0),(120,.sl al.length (recs aC al)),(121,.int .i64 al.length),(122,.int .i64 0)],[(0,.optr [.nils,.nils]),(1,.optr [.osl 1 (lL (jZ fin al) fin fin.length).length (HL.bools (lL (jZ fin al) fin fin.length)),.osl 4 0 []])],2⟩:St)) hEn) ?_
   refine cu [1,2,9,10,120,121,122] (fun j:Nat=>j<=al.length) (fun j=>⟨[(1,.ptr [.sl fin.length (HL.bools fin),.sl al.length (recs aC al)] 0),(2,.pref 0 [] 0),(9,.sl fin.length (HL.ints (oZ (jZ fin al) fin.length fin.length))),(10,.pref 1 [] 0),(120,.sl al.length (recs aC al)),(121,.int .i64 al.length),(122,.int .i64 j)],[(0,.optr [.nils,.nils]),(1,.optr [.osl 1 (lL (jZ fin al) fin fin.length).length (HL.bools (lL (jZ fin al) fin fin.length)),.osl 4 (qG (jZ fin al) (al.take j)).length (recs aC (qG (jZ fin al) (al.take j)))])],2⟩) (fun j=>al.length - j) 0 (by omega) rfl ?_
   intro j hj
   have hal:=zJ (k:=jZ fin al) (al.take j)
   rw [List.length_take] at hal
   by_cases hjl:j<al.length
   ·have haa:=dh hv (lC hjl)
    have hst:=J9 (k:=jZ fin al) hjl
    have o1:=F7 (k:=jZ fin al) (show (al.getD j default).f.toNat<fin.length by omega)
    have o2:=F7 (k:=jZ fin al) (show (al.getD j default).t.toNat<fin.length by omega)
    unfold Ox at o1 o2
    have c1:=cnt_le (k:=jZ fin al) (i:=(al.getD j default).f.toNat)
    have c2:=cnt_le (k:=jZ fin al) (i:=(al.getD j default).t.toNat)
    cases hk1:jZ fin al (al.getD j default).f.toNat with
    | false =>
     rw [hk1] at o1 hst
     simp only [Bool.false_eq_true,if_false,Bool.false_and,List.append_nil] at o1 hst
     repeat (first|refine ah ?_|refine dH ?_|refine aU ?_|refine jb (by rfl) aW (by (try simp (disch:=omega) only [go_sem,o1]);try rfl) ?_|refine gJ (by rfl) bV (by (try simp (disch:=omega) only [go_sem,reduceIte,Nat.reduceEqDiff,Nat.reduceAdd,Nat.reduceMul,o1]);try rfl) aW (by (try simp (disch:=omega) only [go_sem,o1]);try rfl) aV ?_|refine af ?_|refine az ?_|refine aO ?_|refine jL (by rfl) (by rfl) (by (try simp (disch:=omega) only [go_sem,Int.reduceAdd,Int.reduceSub,Int.reduceMul,o1]);try rfl) ?_|refine ax ?_|refine au ?_|refine ak ?_|refine ae ?_|refine aB ?_|refine fK ?_|refine aF ?_|refine mW (by rfl) (by rfl) kC ?_|refine aI ?_|refine qp (by rfl) aW (by (try simp (disch:=omega) only [go_sem,reduceIte,Nat.reduceEqDiff,Nat.reduceAdd,Nat.reduceMul,o1]);try rfl) ?_|refine uy (by rfl) aV aP ja (by rfl) (by decide) bV aP aW (by (try simp (disch:=omega) only [go_sem,o1]);try rfl) aP ?_|refine bP eH ?_)
     exact dB [1,2,9,10,120,121,122] (j+1) hjl (by omega) (by simp only [hst];rfl)
    | true =>
     rw [hk1] at o1 hst
     simp only [if_true] at o1
     cases hk2:jZ fin al (al.getD j default).t.toNat with
     | false =>
      rw [hk2] at o2 hst
      simp only [Bool.false_eq_true,if_false,Bool.and_false,List.append_nil] at o2 hst
      repeat (first|refine ah ?_|refine aK ?_|refine aU ?_|refine jb (by rfl) aW (by (try simp (disch:=omega) only [go_sem,o1,o2]);try rfl) ?_|refine gJ (by rfl) bV (by (try simp (disch:=omega) only [go_sem,reduceIte,Nat.reduceEqDiff,Nat.reduceAdd,Nat.reduceMul,o1,o2]);try rfl) aW (by (try simp (disch:=omega) only [go_sem,o1,o2]);try rfl) aV ?_|refine af ?_|refine az ?_|refine aS ?_|refine jL (by rfl) (by rfl) (by (try simp (disch:=omega) only [go_sem,Int.reduceAdd,Int.reduceSub,Int.reduceMul,o1,o2]);try rfl) ?_|refine ax ?_|refine au ?_|refine ak ?_|refine ae ?_|refine aB ?_|refine fK ?_|refine aF ?_|refine mW (by rfl) (by rfl) kC ?_|refine aI ?_|refine qp (by rfl) aW (by (try simp (disch:=omega) only [go_sem,reduceIte,Nat.reduceEqDiff,Nat.reduceAdd,Nat.reduceMul,o1,o2]);try rfl) ?_|refine uy (by rfl) aV aP ja (by rfl) (by decide) bV aP aW (by (try simp (disch:=omega) only [go_sem,o1,o2]);try rfl) aP ?_|refine bP eH ?_)
      exact dB [1,2,9,10,120,121,122] (j+1) hjl (by omega) (by simp only [hst];rfl)
     | true =>
      rw [hk2] at o2 hst
      simp only [if_true,Bool.and_self] at o2 hst
      repeat (first|refine ah ?_|refine aK ?_|refine aU ?_|refine jb (by rfl) aW (by (try simp (disch:=omega) only [go_sem,o1,o2]);try rfl) ?_|refine gJ (by rfl) bV (by (try simp (disch:=omega) only [go_sem,reduceIte,Nat.reduceEqDiff,Nat.reduceAdd,Nat.reduceMul,o1,o2]);try rfl) aW (by (try simp (disch:=omega) only [go_sem,o1,o2]);try rfl) aV ?_|refine af ?_|refine az ?_|refine aS ?_|refine ax ?_|refine ak ?_|refine ae ?_|refine aB ?_|refine aF ?_|refine mW (by rfl) (by rfl) kC ?_|refine aI ?_|refine qp (by rfl) aW (by (try simp (disch:=omega) only [go_sem,reduceIte,Nat.reduceEqDiff,Nat.reduceAdd,Nat.reduceMul,o1,o2]);try rfl) ?_|refine uy (by rfl) aV aP ja (by rfl) (by decide) bV aP aW (by (try simp (disch:=omega) only [go_sem,o1,o2]);try rfl) aP ?_|refine bP eH ?_)
      refine bg 50 [1,2,9,10,14,120,121,122] ⟨[(1,.ptr [.sl fin.length (HL.bools fin),.sl al.length (recs aC al)] 0),(2,.pref 0 [] 0),(9,.sl fin.length (HL.ints (oZ (jZ fin al) fin.length fin.length))),(10,.pref 1 [] 0),(14,.ptr (aC (al.getD j default)) 0),(120,.sl al.length (recs aC al)),(121,.int .i64 al.length),(122,.int .i64 j)],[(0,.optr [.nils,.nils]),(1,.optr [.osl 1 (lL (jZ fin al) fin fin.length).length (HL.bools (lL (jZ fin al) fin fin.length)),.osl 4 (qG (jZ fin al) (al.take j)).length (recs aC (qG (jZ fin al) (al.take j)))])],2⟩ rfl ?_
      unfold PQ
      refine jP [9,14] [] aT aT (fun _ _ _=>False) (by simp [aG,HV.deep,bF,kJ,aC]) (by simp) ?_
      simp only [aC]
      repeat (first|refine ah ?_|refine aU ?_|refine jb (by rfl) aW (by (try simp (disch:=omega) only [go_sem,o1,o2]);try rfl) ?_|refine gJ (by rfl) bV (by (try simp (disch:=omega) only [go_sem,reduceIte,Nat.reduceEqDiff,Nat.reduceAdd,Nat.reduceMul,o1,o2]);try rfl) aW (by (try simp (disch:=omega) only [go_sem,o1,o2]);try rfl) aV ?_|refine af ?_|refine jL (by rfl) (by rfl) (by (try simp (disch:=omega) only [go_sem,Int.reduceAdd,Int.reduceSub,Int.reduceMul,o1,o2]);try rfl) ?_|refine ae ?_|refine fK ?_|refine dE ?_|refine aI ?_|refine lY (by rfl) aV aP jG mD (by rfl) mO (by rfl) mV (by (try simp (disch:=omega) only [go_sem,reduceIte,Nat.reduceEqDiff,Nat.reduceAdd,Nat.reduceMul,o1,o2]);try rfl) aW (by (try simp (disch:=omega) only [go_sem,o1,o2]);try rfl) aP jM ?_|refine bQ ?_|refine lD eH (by rfl) aV uS (by (try simp (disch:=omega) only [go_sem,reduceIte,Nat.reduceEqDiff,Nat.reduceAdd,Nat.reduceMul,o1,o2]);try omega) bV (by (try simp (disch:=omega) only [go_sem,reduceIte,Nat.reduceEqDiff,Nat.reduceAdd,Nat.reduceMul,o1,o2]);try rfl) eH (by omega) iU aW (by (try simp (disch:=omega) only [go_sem,reduceIte,Nat.reduceEqDiff,Nat.reduceAdd,Nat.reduceMul,o1,o2]);try rfl) aP ?_|refine di ?_)
      exact dB [1,2,9,10,120,121,122] (j+1) hjl (by omega) (by simp only [hst,List.length_append,List.length_singleton];rfl)
   ·obtain rfl:j=al.length:=by omega
    rw [List.take_length]
    refine bg 1 [1,2,10,120,121,122] ⟨[(1,.ptr [.sl fin.length (HL.bools fin),.sl al.length (recs aC al)] 0),(2,.pref 0 [] 0),(10,.ptr (stripL [.osl 1 (lL (jZ fin al) fin fin.length).length (HL.bools (lL (jZ fin al) fin fin.length)),.osl 4 (qG (jZ fin al) al).length (recs aC (qG (jZ fin al) al))]) 0),(120,.sl al.length (recs aC al)),(121,.int .i64 al.length),(122,.int .i64 al.length)],[(0,.optr [.nils,.nils])],1⟩ rfl ?_
    rw [jd]
    repeat (first|refine af ?_|refine az ?_|refine bK (by rfl) ?_|refine au ?_|refine ak ?_|refine ae ?_|refine bn ?_|refine cO ?_)
    refine ay ?_
    exact ⟨_,_,rfl,rfl,by rw [ht];rfl⟩
set_option maxHeartbeats 8000000 in
theorem IK (fin:List Bool) (al:List A) (hf:fin.length<=9223372036854775807) (ha:al.length<=9223372036854775807):HT Try.prog 25 [.agg (iC fin al)] (fun r=>r=.agg (iC (trimF fin al).1 (trimF fin al).2)):=by
 refine HT.ofC rfl ad1 [2] rfl (Nat.le_of_ble_eq_true rfl) ?_
 unfold c25
 have hvd:=o9 fin al hf ha
 simp only [aY,Nat.reduceAdd]
 simp only [iC,jX] at hvd ⊢
 repeat (first|refine af ?_|refine ak ?_|refine ae ?_|refine fJ ?_|refine dU ?_|refine bP eH ?_)
 refine bY bz bW (hvd) ?_
 rintro _ rfl
 by_cases hv:okF fin al=true
 ·rw [hv]
  refine ⟨bG,_,_,_,_,_,fU,(by decide),bu,?_⟩
  obtain ⟨h1,h2,h3⟩:=dR hv
  repeat (first|refine ah ?_|refine aZ ?_|refine af ?_|refine aQ ?_|refine au ?_|refine ak ?_|refine ae ?_|refine aB ?_|refine aF ?_|refine gW (by rfl) ?_|refine aI ?_|refine cO ?_|refine bP eH ?_|refine qU eH (by rfl) (by omega) aP aP ?_)
  refine bg 0 [1,2,3,4,28,29,30] ⟨[(1,.ptr (stripL [.sl fin.length (HL.bools fin),.sl al.length (recs aC al)]) 0),(2,.pref 0 [] 0),(3,.pref 1 [] 0),(4,.pref 2 [] 0),(28,.sl al.length (recs aC al)),(29,.int .i64 al.length),(30,.int .i64 0)],[(0,.optr [.nils,.nils]),(1,.optr [.osl 1 fin.length (iO (List.replicate fin.length []))]),(2,.optr [.osl 1 fin.length (iO (List.replicate fin.length []))])],3⟩ rfl ?_
  rw [lN]
  refine cu [1,2,3,4,28,29,30] (fun k:Nat=>k<=al.length)
   (fun k=>⟨[(1,.ptr [.sl fin.length (HL.bools fin),.sl al.length (recs aC al)] 0),(2,.pref 0 [] 0),(3,.pref 1 [] 0),(4,.pref 2 [] 0),(28,.sl al.length (recs aC al)),(29,.int .i64 al.length),(30,.int .i64 k)],[(0,.optr [.nils,.nils]),(1,.optr [.osl 1 fin.length (iO (gy (·.f) (·.t) fin.length (al.take k)))]),(2,.optr [.osl 1 fin.length (iO (gy (·.t) (·.f) fin.length (al.take k)))])],3⟩)
   (fun k=>al.length - k) 0 (by omega) (by simp only [List.take_zero,Kv];rfl) ?_
  intro k hk
  by_cases hkl:k<al.length
  ·have haa:=dh hv (lC hkl)
   have htk:=dw hkl
   have hr1:=tJ (·.f) (·.t) fin.length (al.take k)
   have hr2:=tJ (·.t) (·.f) fin.length (al.take k)
   have hb1:((gy (·.f) (·.t) fin.length (al.take k)).getD (al.getD k default).f.toNat []).length<=100000:=Nat.le_trans sN (by rw [List.length_take];omega)
   have hb2:((gy (·.t) (·.f) fin.length (al.take k)).getD (al.getD k default).t.toNat []).length<=100000:=Nat.le_trans sN (by rw [List.length_take];omega)
   have hs1:=zx (p:=(·.f)) (q:=(·.t)) (n:=fin.length) (l:=al.take k) (a:=al.getD k default) (j:=(al.getD k default).f.toNat) (by omega)
   have hs2:=zx (p:=(·.t)) (q:=(·.f)) (n:=fin.length) (l:=al.take k) (a:=al.getD k default) (j:=(al.getD k default).t.toNat) (by omega)
   rw [<- htk] at hs1 hs2
   refine ak ?_
   refine ae ?_
   repeat (first|refine af ?_|refine az ?_)
   refine ak ?_
   refine ax ?_
   refine aF ?_
   refine ak ?_
   refine aB ?_
   refine ak ?_
   refine ae ?_
   repeat (first|refine aU ?_|refine af ?_|refine bn ?_|refine dK ?_|refine bP eH ?_)
   refine bg 51 [1,2,3,4,6,28,29,30] ⟨[(1,.ptr [.sl fin.length (HL.bools fin),.sl al.length (recs aC al)] 0),(2,.pref 0 [] 0),(3,.pref 1 [] 0),(4,.pref 2 [] 0),(6,.ptr (aC (al.getD k default)) 0),(28,.sl al.length (recs aC al)),(29,.int .i64 al.length),(30,.int .i64 k)],[(0,.optr [.nils,.nils]),(1,.optr [.osl 1 fin.length (iO (gy (·.f) (·.t) fin.length (al.take k)))]),(2,.optr [.osl 1 fin.length (iO (gy (·.t) (·.f) fin.length (al.take k)))])],3⟩ rfl ?_
   refine J8 (x:=.skip) (a:=al.getD k default) hr1 haa.1 haa.2.1 hb1 hs1 ?_
   refine Ku (a:=al.getD k default) hr2 haa.2.2.1 haa.2.2.2.1 hb2 hs2 ?_
   repeat (first|refine ah ?_|refine af ?_|refine bH ?_|refine ae ?_)
   exact dB [1,2,3,4,28,29,30] (k+1) hkl (by omega) rfl
  ·obtain rfl:k=al.length:=by omega
   rw [List.take_length]
   have hr1:=tJ (·.f) (·.t) fin.length al
   have hr2:=tJ (·.t) (·.f) fin.length al
   refine bg 1 [1,2,3,4,28,29,30] ⟨[(1,.ptr [.sl fin.length (HL.bools fin),.sl al.length (recs aC al)] 0),(2,.pref 0 [] 0),(3,.ptr (stripL [.osl 1 fin.length (iO (gy (·.f) (·.t) fin.length al))]) 0),(4,.pref 1 [] 0),(28,.sl al.length (recs aC al)),(29,.int .i64 al.length),(30,.int .i64 al.length)],[(0,.optr [.nils,.nils]),(1,.optr [.osl 1 fin.length (iO (gy (·.t) (·.f) fin.length al))])],2⟩ rfl ?_
   rw [show stripL [.osl 1 fin.length (iO (gy (·.f) (·.t) fin.length al))]=[.sl fin.length (iT (gy (·.f) (·.t) fin.length al))] by simp only [stripL,HV.strip,yC]]
   refine bg 1 [1,2,3,4,28,29,30] ⟨[(1,.ptr [.sl fin.length (HL.bools fin),.sl al.length (recs aC al)] 0),(2,.pref 0 [] 0),(3,.ptr [.sl fin.length (iT (gy (·.f) (·.t) fin.length al))] 0),(4,.ptr (stripL [.osl 1 fin.length (iO (gy (·.t) (·.f) fin.length al))]) 0),(28,.sl al.length (recs aC al)),(29,.int .i64 al.length),(30,.int .i64 al.length)],[(0,.optr [.nils,.nils])],1⟩ rfl ?_
   rw [show stripL [.osl 1 fin.length (iO (gy (·.t) (·.f) fin.length al))]=[.sl fin.length (iT (gy (·.t) (·.f) fin.length al))] by simp only [stripL,HV.strip,yC]]
   have hin1:∀i,i<fin.length->∀j∈(gy (·.f) (·.t) fin.length al).getD i [],0<=j/\j<fin.length:=fun i hi j hj=>by
    obtain ⟨a,ha,_,rfl⟩:=(sO hi).1 hj
    have:=dh hv ha;omega
   have hin2:∀i,i<fin.length->∀j∈(gy (·.t) (·.f) fin.length al).getD i [],0<=j/\j<fin.length:=fun i hi j hj=>by
    obtain ⟨a,ha,_,rfl⟩:=(sO hi).1 hj
    have:=dh hv ha;omega
   have hle1:∀i,((gy (·.f) (·.t) fin.length al).getD i []).length<=8192:=fun i=>Nat.le_trans sN h3
   have hle2:∀i,((gy (·.t) (·.f) fin.length al).getD i []).length<=8192:=fun i=>Nat.le_trans sN h3
   have hw1:=EQ 69 [.sl fin.length (iT (gy (·.f) (·.t) fin.length al))] fin.length 8192 (fun i=>(gy (·.f) (·.t) fin.length al).getD i []) [0] h2 (fun i _=>hle1 i) (by omega) (by simp) hin1 (by simp;omega) (fun i hi=>Rj _ i fin.length hi hr1 (Nat.le_trans (hle1 i) (by decide)))
   have hfl:=nO fin fin.length
   have hw2:=EQ 71 [.sl fin.length (iT (gy (·.t) (·.f) fin.length al))] fin.length 8192 (fun i=>(gy (·.t) (·.f) fin.length al).getD i []) (jS fin fin.length) h2 (fun i _=>hle2 i) (by omega) (by omega) hin2 (fun j hj=>by have:=mem_finL.1 hj;have h5:=gZ this;exact ⟨this.1,h5⟩) (fun i hi=>SN _ i fin.length hi hr2 (Nat.le_trans (hle2 i) (by decide)))
   have hfin:=tV fin (by omega)
   repeat (first|refine bZ ?_|refine af ?_|refine az ?_|refine aQ ?_|refine bK (by rfl) ?_|refine au ?_|refine ak ?_|refine ae ?_|refine dE ?_|refine bQ ?_)
   refine wG bz ?_
   skip
   refine vY [] [] bz CZ QN rfl (by decide) (hw1) ?_
   rintro _ outs ⟨rb,rfl,hrl,hrc⟩ hol
   obtain rfl:=List.eq_nil_of_length_eq_zero hol
   refine ⟨_,_,_,_,_,fU,(by decide),Gf,?_⟩
   repeat (first|refine ah ?_|refine af ?_)
   refine dV [1,2,4,7] ⟨[(1,.ptr [.sl fin.length (HL.bools fin),.sl al.length (recs aC al)] 0),(2,.pref 0 [] 0),(4,.ptr [.sl fin.length (iT (gy (·.t) (·.f) fin.length al))] 0),(7,.ref 1 [] 1 0 fin.length)],[(0,.optr [.nils,.nils]),(1,.osl 1 fin.length (HL.bools rb))],2⟩ rfl ?_
   refine ak ?_
   refine MW 7 [1,4] [] aT aT aT (fun _ _ r=>r=.osl 1 (jS fin fin.length).length (HL.ints (jS fin fin.length))) (by simp [aG,HV.deep,bF,fM,fB,Rt]) (by simp) ?_
   repeat (first|refine bZ ?_|refine aQ ?_|refine dE ?_)
   refine dO bz bW hfin ⟨_,rfl,by simp [HV.deep,kJ]⟩ ?_
   rintro _ rfl -
   refine ⟨bG,_,_,_,_,_,fU,(by decide),bu,?_⟩
   skip
   refine wG bz ?_
   repeat (first|refine af ?_|refine ae ?_)
   simp only [List.drop_succ_cons,List.drop_zero]
   refine vY [] [] bz CZ QN rfl (by decide) (hw2) ?_
   rintro _ outs ⟨lb,rfl,hll,hlc⟩ hol
   obtain rfl:=List.eq_nil_of_length_eq_zero hol
   refine ⟨_,_,_,_,_,fU,(by decide),Gf,?_⟩
   repeat (first|refine ah ?_|refine af ?_)
   refine dV [1,2,7,8] ⟨[(1,.ptr [.sl fin.length (HL.bools fin),.sl al.length (recs aC al)] 0),(2,.pref 0 [] 0),(7,.ref 1 [] 1 0 fin.length),(8,.ref 2 [] 1 0 fin.length)],[(0,.optr [.nils,.nils]),(1,.osl 1 fin.length (HL.bools rb)),(2,.osl 1 fin.length (HL.bools lb))],3⟩ rfl ?_
   have hrc':∀i,rb.getD i false=true <-> Rc al (·.f) (·.t) (·=0) i:=fun i=>(hrc i).trans (Un (fun a ha=>by have:=dh hv ha;omega) (fun a ha=>by have:=dh hv ha;omega) (fun i=>⟨fun h=>⟨0,by simp,by simpa using h.symm⟩,fun ⟨j,hj,h⟩=>by simp at hj;subst hj;simpa using h.symm⟩))
   have hlc':∀i,lb.getD i false=true <-> Rc al (·.t) (·.f) (fun j=>fin.getD j false=true) i:=fun i=>(hlc i).trans (Un (fun a ha=>by have:=dh hv ha;omega) (fun a ha=>by have:=dh hv ha;omega) (fun i=>⟨fun h=>⟨(i:Int),mem_finL.2 ⟨by omega,by simpa using h⟩,by simp⟩,fun ⟨j,hj,h⟩=>by subst h;exact (mem_finL.1 hj).2⟩))
   exact MH fin al rb lb hv hrl hll hrc' hlc'
 ·have ht:trimF fin al=([],[]):=by unfold trimF;rw [if_neg hv]
  rw [show okF fin al=false by simpa using hv]
  refine ⟨bG,_,_,_,_,_,fU,(by decide),bu,?_⟩
  repeat (first|refine af ?_|refine ax ?_|refine ak ?_|refine ae ?_|refine iI (by rfl) ?_|refine cO ?_|refine di ?_)
  refine fD 16 [1,4] [2] (⟨[(2,.pref 0 [] 0)],[(0,.optr [.osl 1 0 [],.osl 4 0 []])],1⟩:St) rfl rfl ?_
  refine jR 0 [2] ⟨[(2,.pref 0 [] 0)],[(0,.optr [.sl 0 [],.sl 0 []])],1⟩ rfl rfl ?_
  refine ay ?_
  exact ⟨_,_,rfl,rfl,by rw [ht];rfl⟩
end Go.Proofs.Ytlbdmpjnmfmnfaa
