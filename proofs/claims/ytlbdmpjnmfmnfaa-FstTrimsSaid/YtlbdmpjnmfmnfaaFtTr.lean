import Derived.Test.YtlbdmpjnmfmnfaaCodesFstTrims
import Derived.Test.YtlbdmpjnmfmnfaaFt8
import Derived.Test.YtlbdmpjnmfmnfaaFtU
import Derived.Test.YtlbdmpjnmfmnfaaFtV
import Derived.Test.YtlbdmpjnmfmnfaaFtW
set_option linter.unusedSimpArgs false
set_option linter.unusedVariables false
namespace Go.Proofs.Ytlbdmpjnmfmnfaa
open Go.RowKit Go.HL Go.FS
theorem AO (fin:List Bool) (al:List A) (h:fin.length<=9000) (h2:al.length<=9000):(trimF fin al).1.length<=9000/\(trimF fin al).2.length<=9000:=by
 unfold trimF
 split
 ·split
  ·have h3:=tJ (k:=fQ fin al) al
   have h4:=cnt_le (k:=fQ fin al) (i:=fin.length)
   simp only [kz]
   omega
  ·simp
 ·simp
theorem FU (fin:List Bool) (al:List A) (h:fin.length<=9000) (h2:al.length<=9000):(o8 fin al).1.length<=9000/\(o8 fin al).2.length<=9000:=by
 unfold o8
 split
 ·simp;omega
 ·simp
set_option maxHeartbeats 8000000 in
theorem CE (l:List Int) (at_ how:Int) (hl:l.length<=9223372036854775807) (hr:∀k,k<l.length -> -9223372036854775808<=l.getD k 0/\l.getD k 0<=9223372036854775807)
  (ha : -9223372036854775808<=at_/\at_<=9223372036854775807) (hh : -9223372036854775808<=how/\how<=9223372036854775807) :
  HT Try.prog 6 [I l,.int .i64 at_,.int .i64 how] (fun r=>r=.bool true):=by
 refine HT.of rfl fc6 (Nat.le_of_ble_eq_true rfl) ?_
 unfold c6
 simp only [I,aW,Nat.reduceAdd]
 repeat (first|refine ah ?_|refine af ?_|refine au ?_|refine ae ?_)
 refine dG bK (by simp (disch:=omega) only [fK,I,HV.thaw,fB,aT,aQ,if_true,if_false,reduceIte,Nat.reduceEqDiff,stripL,HV.strip,kX,lZ,Nat.mul_one,List.cons_append,List.nil_append,List.append_nil,I,Bl,T3,List.getD_cons_zero,List.getD_cons_succ,HL.ints_strip,HL.bools_strip,oJ];try rfl) (TQ l hl hr) ?_
 rintro _ ⟨fin,al,rfl,hf1,hf2,hal⟩
 simp only [fA,iw]
 refine ⟨bP,_,_,_,_,_,gU,(by decide),bJ,?_⟩
 repeat (first|refine af ?_|refine cu ?_|refine bG dS ?_)
 refine bg 48 [1,2,6,7] ⟨[(1,.int .i64 at_),(2,.int .i64 how),(6,.bool false),(7,.ptr (stripL [.sl fin.length (HL.bools fin),.sl al.length (recs aC al)]) 0)],[],0⟩ rfl ?_
 rw [iU]
 have hsp:=GY fin al at_ how (by omega) (by omega) ha hh
 simp only [fA,iw] at hsp
 refine au ?_
 refine dV aY aY (fun f _ r=>∃fin al,r=.agg [.sl fin.length (HL.bools fin),.sl al.length (recs aC al)]/\fin.length<=9000/\al.length<=9000) ?_
 repeat (first|refine ah ?_|refine aZ ?_)
 refine dK bK dh hsp ⟨.agg [.sl 0 (HL.bools []),.sl 0 (recs aC [])],⟨[],[],rfl,by simp,by simp⟩,rfl⟩ ?_
 rintro _ ⟨f2,a2,rfl,hf3,ha3⟩ -
 refine ⟨bP,_,_,_,_,_,gU,(by decide),bJ,?_⟩
 repeat (first|refine ah ?_|refine af ?_|refine bU ?_|refine bZ ?_)
 refine bg 96 [6,8] ⟨[(6,.bool false),(8,.sl 3 (stripL [.sl fin.length (HL.bools fin),.sl al.length (recs aC al),.sl f2.length (HL.bools f2),.sl a2.length (recs aC a2),.nils,.nils]))],[],0⟩ rfl ?_
 rw [show stripL [.sl fin.length (HL.bools fin),.sl al.length (recs aC al),.sl f2.length (HL.bools f2),.sl a2.length (recs aC a2),.nils,.nils]=recs fE [some (fin,al),some (f2,a2),none] by simp only [stripL,HV.strip,HL.bools_strip,jg];rfl]
 obtain ⟨T,hT⟩:∃T,T=[some (fin,al),some (f2,a2),none]:=⟨_,rfl⟩
 have hTl:T.length=3:=by rw [hT];rfl
 have hTb:∀k,(fO (T.getD k none)).1.length<=9000/\(fO (T.getD k none)).2.length<=9000:=fun k=>by
  rw [hT]
  rcases k with _|_|_|k
  ·exact ⟨by show fin.length<=9000;omega,by show al.length<=9000;omega⟩
  ·exact ⟨hf3,ha3⟩
  ·exact ⟨Nat.zero_le _,Nat.zero_le _⟩
  ·exact ⟨Nat.zero_le _,Nat.zero_le _⟩
 rw [<- hT]
 clear hT hsp hf3 ha3 ha hh hr hl
 repeat (first|refine ah ?_|refine af ?_|refine au ?_|refine ae ?_|refine aA ?_)
 refine bW [6,8,9] (fun i:Nat=>i<=3) (fun i=>⟨[(6,.bool false),(8,.sl 3 (recs fE T)),(9,.int .i64 i)],[],0⟩) (fun i=>3 - i) 0 (by omega) rfl ?_
 intro i hi
 by_cases hil:i<3
 ·have hb:=hTb i
  cases ho:T.getD i none with
  | none =>
   rw [ho] at hb
   have g1:=HT.fE (o:=none) (vU (fO (none)).1 (fO (none)).2 (by omega) (by omega))
   have g2:=HT.fE (o:=none) (kD (fO (none)).1 (fO (none)).2 (by omega) (by omega))
   have g3:=HT.fE (o:=none) (ul (fO (none)).1 (fO (none)).2 (by omega) (by omega))
   have g4:=HT.fE (o:=none) (Dc (fO (none)).1 (fO (none)).2 (by omega) (by omega))
   have g5:=HT.fE (o:=none) (uP (fO (none)).1 (fO (none)).2 (by omega) (by omega))
   obtain ⟨q1,q2⟩:=AO (fO (none)).1 (fO (none)).2 hb.1 hb.2
   obtain ⟨j1,j2⟩:=FU (fO (none)).1 (fO (none)).2 hb.1 hb.2
   have g6:=kD (o8 (fO (none)).1 (fO (none)).2).1 (o8 (fO (none)).1 (fO (none)).2).2 (by omega) (by omega)
   rw [F9] at g6
   have g7:=vU (trimF (fO (none)).1 (fO (none)).2).1 (trimF (fO (none)).1 (fO (none)).2).2 (by omega) (by omega)
   rw [wK] at g7
   generalize okF (fO (none)).1 (fO (none)).2=b at g2 g3 g6
   generalize trimF (fO (none)).1 (fO (none)).2=Q at g1 g4 g7 q1 q2
   generalize o8 (fO (none)).1 (fO (none)).2=J at g5 g6 j1 j2
   have g8:=CQ Q.1 Q.1 Q.2 Q.2 (by omega) (by omega) (by omega) (by omega)
   rw [decide_eq_true ⟨rfl,rfl⟩] at g8
   simp only [fE,fC,fA,iw] at g1 g2 g3 g4 g5 g6 g7 g8
   have hbb:(!(b==b))=false:=by cases b<;>rfl
   repeat (first|refine ah ?_|refine aO ?_|refine af ?_|refine az ?_|refine ak ?_|refine au ?_|refine ae ?_|refine aA ?_|refine aF ?_|refine iq (by rfl) aG (by (try simp (disch:=omega) only [go_sem,reduceIte,Nat.reduceEqDiff,Nat.reduceAdd,Nat.reduceMul,ho,fE,fC]);try rfl) ?_)
   refine dG bK dh (g1) ?_
   rintro _ rfl
   refine ⟨bP,_,_,_,_,_,gU,(by decide),bJ,?_⟩
   repeat (first|refine af ?_|refine cu ?_|refine bG dS ?_)
   refine bg 112 [6,8,9,10] ⟨[(6,.bool false),(8,.sl 3 (recs fE T)),(9,.int .i64 i),(10,.ptr (stripL [.sl Q.1.length (HL.bools Q.1),.sl Q.2.length (recs aC Q.2)]) 0)],[],0⟩ rfl ?_
   rw [iU]
   refine au ?_
   refine au ?_
   refine dV aY aY (fun f _ r=>if f=13 then r=.agg [.sl Q.1.length (HL.bools Q.1),.sl Q.2.length (recs aC Q.2)] else if f=28 then r=.bool true else r=.bool b) ?_
   repeat (first|refine ah ?_|refine aO ?_|refine iq (by rfl) aG (by (try simp (disch:=omega) only [go_sem,reduceIte,Nat.reduceEqDiff,Nat.reduceAdd,Nat.reduceMul,ho,fE,fC]);try rfl) ?_)
   refine dK bK dh g2 ⟨_,rfl,rfl⟩ ?_
   rintro _ rfl -
   refine ⟨bP,_,_,_,_,_,gU,(by decide),bJ,?_⟩
   repeat (first|refine ah ?_|refine aO ?_|refine iq (by rfl) aG (by (try simp (disch:=omega) only [go_sem,reduceIte,Nat.reduceEqDiff,Nat.reduceAdd,Nat.reduceMul,ho,fE,fC]);try rfl) ?_)
   refine dK bK dh g3 ⟨_,rfl,rfl⟩ ?_
   rintro _ rfl -
   refine ⟨bP,_,_,_,_,_,gU,(by decide),bJ,?_⟩
   repeat (first|refine ah ?_|refine aN ?_|refine aO ?_|refine uZ (by rfl) (by rfl) (by (try simp only [go_sem,reduceIte,ho,fE,fC,hbb]);try rfl) ?_|refine iq (by rfl) aG (by (try simp (disch:=omega) only [go_sem,reduceIte,Nat.reduceEqDiff,Nat.reduceAdd,Nat.reduceMul,ho,fE,fC,hbb]);try rfl) ?_)
   refine dK bK dh g4 ⟨_,rfl,by simp [HV.deep,bz,ig,iM]⟩ ?_
   rintro _ rfl -
   refine ⟨bP,_,_,_,_,_,gU,(by decide),bJ,?_⟩
   repeat (first|refine aN ?_)
   refine dK bK dh g8 ⟨_,rfl,rfl⟩ ?_
   rintro _ rfl -
   refine ⟨bP,_,_,_,_,_,gU,(by decide),bJ,?_⟩
   repeat (first|refine aN ?_|refine af ?_|refine aP ?_|refine iJ (by rfl) ?_)
   refine ax ?_
   refine aF ?_
   refine au ?_
   refine dV aY aY (fun f _ r=>if f=25 then r=.agg [.sl Q.1.length (HL.bools Q.1),.sl Q.2.length (recs aC Q.2)] else if f=28 then r=.bool true else if f=23 then r=.agg [.sl J.1.length (HL.bools J.1),.sl J.2.length (recs aC J.2)] else r=.bool b) ?_
   repeat (first|refine aZ ?_)
   refine dK bK dh g7 ⟨_,rfl,by simp [HV.deep,bz,ig,iM]⟩ ?_
   rintro _ rfl -
   refine ⟨bP,_,_,_,_,_,gU,(by decide),bJ,?_⟩
   repeat (first|refine aZ ?_)
   refine dK bK dh g8 ⟨_,rfl,rfl⟩ ?_
   rintro _ rfl -
   refine ⟨bP,_,_,_,_,_,gU,(by decide),bJ,?_⟩
   repeat (first|refine ah ?_|refine aN ?_|refine aO ?_|refine iJ (by rfl) ?_|refine iq (by rfl) aG (by (try simp (disch:=omega) only [go_sem,reduceIte,Nat.reduceEqDiff,Nat.reduceAdd,Nat.reduceMul,ho,fE,fC]);try rfl) ?_)
   refine dK bK dh g5 ⟨_,rfl,by simp [HV.deep,bz,ig,iM]⟩ ?_
   rintro _ rfl -
   refine ⟨bP,_,_,_,_,_,gU,(by decide),bJ,?_⟩
   repeat (first|refine aN ?_)
   refine dK bK dh g6 ⟨_,rfl,rfl⟩ ?_
   rintro _ rfl -
   refine ⟨bP,_,_,_,_,_,gU,(by decide),bJ,?_⟩
   repeat (first|refine ah ?_|refine aN ?_|refine aO ?_|refine iq (by rfl) aG (by (try simp (disch:=omega) only [go_sem,reduceIte,Nat.reduceEqDiff,Nat.reduceAdd,Nat.reduceMul,ho,fE,fC]);try rfl) ?_)
   refine dK bK dh g3 ⟨_,rfl,rfl⟩ ?_
   rintro _ rfl -
   refine ⟨bP,_,_,_,_,_,gU,(by decide),bJ,?_⟩
   repeat (first|refine ah ?_|refine aN ?_|refine af ?_|refine aP ?_|refine gI (by rfl) (by rfl) (by (try simp (disch:=omega) only [go_sem,Int.reduceAdd,Int.reduceSub,Int.reduceMul,hbb]);try rfl) ?_|refine ax ?_|refine ae ?_|refine dL ?_|refine aF ?_|refine uZ (by rfl) (by rfl) (by (try simp only [go_sem,reduceIte,hbb]);try rfl) ?_)
   exact dm [6,8,9] (i+1) hil (by omega) rfl
  | some p =>
   rw [ho] at hb
   have g1:=HT.fE (o:=some p) (vU (fO (some p)).1 (fO (some p)).2 (by omega) (by omega))
   have g2:=HT.fE (o:=some p) (kD (fO (some p)).1 (fO (some p)).2 (by omega) (by omega))
   have g3:=HT.fE (o:=some p) (ul (fO (some p)).1 (fO (some p)).2 (by omega) (by omega))
   have g4:=HT.fE (o:=some p) (Dc (fO (some p)).1 (fO (some p)).2 (by omega) (by omega))
   have g5:=HT.fE (o:=some p) (uP (fO (some p)).1 (fO (some p)).2 (by omega) (by omega))
   obtain ⟨q1,q2⟩:=AO (fO (some p)).1 (fO (some p)).2 hb.1 hb.2
   obtain ⟨j1,j2⟩:=FU (fO (some p)).1 (fO (some p)).2 hb.1 hb.2
   have g6:=kD (o8 (fO (some p)).1 (fO (some p)).2).1 (o8 (fO (some p)).1 (fO (some p)).2).2 (by omega) (by omega)
   rw [F9] at g6
   have g7:=vU (trimF (fO (some p)).1 (fO (some p)).2).1 (trimF (fO (some p)).1 (fO (some p)).2).2 (by omega) (by omega)
   rw [wK] at g7
   generalize okF (fO (some p)).1 (fO (some p)).2=b at g2 g3 g6
   generalize trimF (fO (some p)).1 (fO (some p)).2=Q at g1 g4 g7 q1 q2
   generalize o8 (fO (some p)).1 (fO (some p)).2=J at g5 g6 j1 j2
   have g8:=CQ Q.1 Q.1 Q.2 Q.2 (by omega) (by omega) (by omega) (by omega)
   rw [decide_eq_true ⟨rfl,rfl⟩] at g8
   simp only [fE,fC,fA,iw] at g1 g2 g3 g4 g5 g6 g7 g8
   have hbb:(!(b==b))=false:=by cases b<;>rfl
   repeat (first|refine ah ?_|refine aO ?_|refine af ?_|refine az ?_|refine ak ?_|refine au ?_|refine ae ?_|refine aA ?_|refine aF ?_|refine iq (by rfl) aG (by (try simp (disch:=omega) only [go_sem,reduceIte,Nat.reduceEqDiff,Nat.reduceAdd,Nat.reduceMul,ho,fE,fC]);try rfl) ?_)
   refine dG bK dh (g1) ?_
   rintro _ rfl
   refine ⟨bP,_,_,_,_,_,gU,(by decide),bJ,?_⟩
   repeat (first|refine af ?_|refine cu ?_|refine bG dS ?_)
   refine bg 112 [6,8,9,10] ⟨[(6,.bool false),(8,.sl 3 (recs fE T)),(9,.int .i64 i),(10,.ptr (stripL [.sl Q.1.length (HL.bools Q.1),.sl Q.2.length (recs aC Q.2)]) 0)],[],0⟩ rfl ?_
   rw [iU]
   refine au ?_
   refine au ?_
   refine dV aY aY (fun f _ r=>if f=13 then r=.agg [.sl Q.1.length (HL.bools Q.1),.sl Q.2.length (recs aC Q.2)] else if f=28 then r=.bool true else r=.bool b) ?_
   repeat (first|refine ah ?_|refine aO ?_|refine iq (by rfl) aG (by (try simp (disch:=omega) only [go_sem,reduceIte,Nat.reduceEqDiff,Nat.reduceAdd,Nat.reduceMul,ho,fE,fC]);try rfl) ?_)
   refine dK bK dh g2 ⟨_,rfl,rfl⟩ ?_
   rintro _ rfl -
   refine ⟨bP,_,_,_,_,_,gU,(by decide),bJ,?_⟩
   repeat (first|refine ah ?_|refine aO ?_|refine iq (by rfl) aG (by (try simp (disch:=omega) only [go_sem,reduceIte,Nat.reduceEqDiff,Nat.reduceAdd,Nat.reduceMul,ho,fE,fC]);try rfl) ?_)
   refine dK bK dh g3 ⟨_,rfl,rfl⟩ ?_
   rintro _ rfl -
   refine ⟨bP,_,_,_,_,_,gU,(by decide),bJ,?_⟩
   repeat (first|refine ah ?_|refine aN ?_|refine aO ?_|refine uZ (by rfl) (by rfl) (by (try simp only [go_sem,reduceIte,ho,fE,fC,hbb]);try rfl) ?_|refine iq (by rfl) aG (by (try simp (disch:=omega) only [go_sem,reduceIte,Nat.reduceEqDiff,Nat.reduceAdd,Nat.reduceMul,ho,fE,fC,hbb]);try rfl) ?_)
   refine dK bK dh g4 ⟨_,rfl,by simp [HV.deep,bz,ig,iM]⟩ ?_
   rintro _ rfl -
   refine ⟨bP,_,_,_,_,_,gU,(by decide),bJ,?_⟩
   repeat (first|refine aN ?_)
   refine dK bK dh g8 ⟨_,rfl,rfl⟩ ?_
   rintro _ rfl -
   refine ⟨bP,_,_,_,_,_,gU,(by decide),bJ,?_⟩
   repeat (first|refine aN ?_|refine af ?_|refine aP ?_|refine iJ (by rfl) ?_)
   refine ax ?_
   refine aF ?_
   refine au ?_
   refine dV aY aY (fun f _ r=>if f=25 then r=.agg [.sl Q.1.length (HL.bools Q.1),.sl Q.2.length (recs aC Q.2)] else if f=28 then r=.bool true else if f=23 then r=.agg [.sl J.1.length (HL.bools J.1),.sl J.2.length (recs aC J.2)] else r=.bool b) ?_
   repeat (first|refine aZ ?_)
   refine dK bK dh g7 ⟨_,rfl,by simp [HV.deep,bz,ig,iM]⟩ ?_
   rintro _ rfl -
   refine ⟨bP,_,_,_,_,_,gU,(by decide),bJ,?_⟩
   repeat (first|refine aZ ?_)
   refine dK bK dh g8 ⟨_,rfl,rfl⟩ ?_
   rintro _ rfl -
   refine ⟨bP,_,_,_,_,_,gU,(by decide),bJ,?_⟩
   repeat (first|refine ah ?_|refine aN ?_|refine aO ?_|refine iJ (by rfl) ?_|refine iq (by rfl) aG (by (try simp (disch:=omega) only [go_sem,reduceIte,Nat.reduceEqDiff,Nat.reduceAdd,Nat.reduceMul,ho,fE,fC]);try rfl) ?_)
   refine dK bK dh g5 ⟨_,rfl,by simp [HV.deep,bz,ig,iM]⟩ ?_
   rintro _ rfl -
   refine ⟨bP,_,_,_,_,_,gU,(by decide),bJ,?_⟩
   repeat (first|refine aN ?_)
   refine dK bK dh g6 ⟨_,rfl,rfl⟩ ?_
   rintro _ rfl -
   refine ⟨bP,_,_,_,_,_,gU,(by decide),bJ,?_⟩
   repeat (first|refine ah ?_|refine aN ?_|refine aO ?_|refine iq (by rfl) aG (by (try simp (disch:=omega) only [go_sem,reduceIte,Nat.reduceEqDiff,Nat.reduceAdd,Nat.reduceMul,ho,fE,fC]);try rfl) ?_)
   refine dK bK dh g3 ⟨_,rfl,rfl⟩ ?_
   rintro _ rfl -
   refine ⟨bP,_,_,_,_,_,gU,(by decide),bJ,?_⟩
   repeat (first|refine ah ?_|refine aN ?_|refine af ?_|refine aP ?_|refine gI (by rfl) (by rfl) (by (try simp (disch:=omega) only [go_sem,Int.reduceAdd,Int.reduceSub,Int.reduceMul,hbb]);try rfl) ?_|refine ax ?_|refine ae ?_|refine dL ?_|refine aF ?_|refine uZ (by rfl) (by rfl) (by (try simp only [go_sem,reduceIte,hbb]);try rfl) ?_)
   exact dm [6,8,9] (i+1) hil (by omega) rfl
 ·obtain rfl:i=3:=by omega
  have hlv:=DV
  repeat (first|refine ah ?_|refine af ?_|refine az ?_|refine bQ (by rfl) ?_|refine ax ?_|refine au ?_|refine ae ?_)
  refine dG bK dh (hlv) ?_
  rintro _ rfl
  refine ⟨bP,_,_,_,_,_,gU,(by decide),bJ,?_⟩
  repeat (first|refine ah ?_|refine af ?_)
  refine ay ?_
  rfl
end Go.Proofs.Ytlbdmpjnmfmnfaa
