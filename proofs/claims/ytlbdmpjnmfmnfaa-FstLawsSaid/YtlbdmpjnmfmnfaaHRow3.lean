import Derived.Test.YtlbdmpjnmfmnfaaFwLb
import Derived.Test.YtlbdmpjnmfmnfaaFsA
section
set_option linter.unusedSimpArgs false
set_option linter.unusedVariables false
namespace Go.Proofs.Ytlbdmpjnmfmnfaa
set_option linter.unusedSimpArgs false
set_option linter.unnecessarySimpa false
open Go.RowKit Go.HL Go.FS
set_option maxHeartbeats 16000000 in
theorem Hm (l m k w:List Int) (hll:l.length<=9223372036854775807) (hlr:∀i,i<l.length -> -9223372036854775808<=l.getD i 0/\l.getD i 0<=9223372036854775807) (hml:m.length<=9223372036854775807) (hmr:∀i,i<m.length -> -9223372036854775808<=m.getD i 0/\m.getD i 0<=9223372036854775807) (hkl:k.length<=9223372036854775807) (hkr:∀i,i<k.length -> -9223372036854775808<=k.getD i 0/\k.getD i 0<=9223372036854775807) (hwl:w.length<=9223372036854775807) (hwr:∀i,i<w.length -> -9223372036854775808<=w.getD i 0/\w.getD i 0<=9223372036854775807) :
  HT Try.prog 8 [I l,I m,I k,I w] (fun r=>r=.bool true):=by
 refine HT.of rfl fc8 (Nat.le_of_ble_eq_true rfl) ?_
 unfold c8
 simp only [I,aY,Nat.reduceAdd]
 repeat (first|refine ah ?_|refine af ?_|refine ak ?_|refine ae ?_)
 refine bY bz IE (CO l hll hlr) ?_
 rintro _ ⟨s,rfl,s1,s2,s3⟩
 simp only [fC]
 refine ⟨bG,_,_,_,_,_,fU,(by decide),bu,?_⟩
 repeat (first|refine af ?_|refine cO ?_|refine bP eH ?_)
 refine bg 48 [1,2,3,8,9] ⟨[(1,.sl m.length (HL.ints m)),(2,.sl k.length (HL.ints k)),(3,.sl w.length (HL.ints w)),(8,.bool false),(9,.ptr (stripL [.sl s.1.length (HL.bools s.1),.sl s.2.length (recs aC s.2)]) 0)],[],0⟩ rfl ?_
 rw [lN]
 refine ak ?_
 refine ae ?_
 repeat (first|refine ah ?_)
 refine bY bz IE (CO m hml hmr) ?_
 rintro _ ⟨t,rfl,t1,t2,t3⟩
 simp only [fC]
 refine ⟨bG,_,_,_,_,_,fU,(by decide),bu,?_⟩
 repeat (first|refine af ?_|refine cO ?_|refine bP eH ?_)
 refine bg 32 [2,3,8,9,10] ⟨[(2,.sl k.length (HL.ints k)),(3,.sl w.length (HL.ints w)),(8,.bool false),(9,.ptr [.sl s.1.length (HL.bools s.1),.sl s.2.length (recs aC s.2)] 0),(10,.ptr (stripL [.sl t.1.length (HL.bools t.1),.sl t.2.length (recs aC t.2)]) 0)],[],0⟩ rfl ?_
 rw [lN]
 refine ak ?_
 refine ae ?_
 repeat (first|refine ah ?_)
 refine bY bz IE (CO k hkl hkr) ?_
 rintro _ ⟨u,rfl,u1,u2,u3⟩
 simp only [fC]
 refine ⟨bG,_,_,_,_,_,fU,(by decide),bu,?_⟩
 repeat (first|refine af ?_|refine cO ?_|refine bP eH ?_)
 refine bg 32 [3,8,9,10,11] ⟨[(3,.sl w.length (HL.ints w)),(8,.bool false),(9,.ptr [.sl s.1.length (HL.bools s.1),.sl s.2.length (recs aC s.2)] 0),(10,.ptr [.sl t.1.length (HL.bools t.1),.sl t.2.length (recs aC t.2)] 0),(11,.ptr (stripL [.sl u.1.length (HL.bools u.1),.sl u.2.length (recs aC u.2)]) 0)],[],0⟩ rfl ?_
 rw [lN]
 obtain ⟨sT,c1,sTk,sT1,sT2,sTo⟩:=uf s3 t3 5 5 9 9 s1 t1 s2 t2 (by omega) (by omega)
 obtain ⟨tU,c2,tUk,tU1,tU2,tUo⟩:=uf t3 u3 5 5 9 9 t1 u1 t2 u2 (by omega) (by omega)
 obtain ⟨sU,c5,sUk,sU1,sU2,sUo⟩:=uf s3 u3 5 5 9 9 s1 u1 s2 u2 (by omega) (by omega)
 simp only [Nat.reduceMul,Nat.reduceAdd] at sT1 sT2 tU1 tU2 sU1 sU2
 obtain ⟨xTk,xT1,xT2⟩:=D8 sTk
 obtain ⟨xUk,xU1,xU2⟩:=D8 tUk
 have xTo:=fun w v=>Ea sTk (w:=w) (v:=v)
 have xUo:=fun w v=>Ea tUk (w:=w) (v:=v)
 have tr1:=IK sT.1 sT.2 (by omega) (by omega)
 have tr2:=IK tU.1 tU.2 (by omega) (by omega)
 generalize trimF sT.1 sT.2=xT at xTk xT1 xT2 xTo tr1
 generalize trimF tU.1 tU.2=xU at xUk xU1 xU2 xUo tr2
 obtain ⟨onE,c3,onEk,onE1,onE2,onEo⟩:=uf xTk u3 25 5 171 9 (by omega) u1 (by omega) u2 (by omega) (by omega)
 obtain ⟨twO,c4,twOk,twO1,twO2,twOo⟩:=uf s3 xUk 5 25 9 171 s1 (by omega) s2 (by omega) (by omega) (by omega)
 simp only [Nat.reduceMul,Nat.reduceAdd] at onE1 onE2 twO1 twO2
 have g1:pU [t,u]=true:=qh t3 u3 (by omega) (by omega)
 obtain ⟨oTk,oT1,oT2⟩:=IG g1
 have oTo:=fun w v=>Il g1 (w:=w) (v:=v)
 have or1:=Oc t u (by omega) (by omega)
 generalize Bi t u=oT at oTk oT1 oT2 oTo or1
 obtain ⟨bO,c6,bOk,bO1,bO2,bOo⟩:=uf s3 oTk 5 11 9 20 s1 (by omega) s2 (by omega) (by omega) (by omega)
 simp only [Nat.reduceMul,Nat.reduceAdd] at bO1 bO2
 have g2:pU [sT,sU]=true:=qh sTk sUk (by omega) (by omega)
 obtain ⟨oSk,oS1,oS2⟩:=IG g2
 have oSo:=fun w v=>Il g2 (w:=w) (v:=v)
 have or2:=Oc sT sU (by omega) (by omega)
 generalize Bi sT sU=oS at oSk oS1 oS2 oSo or2
 have q1:qV onE twO:=fun w v=>by
  rw [onEo,twOo]
  constructor
  ·rintro ⟨a,h1,h2⟩
   obtain ⟨b,h3,h4⟩:=(sTo _ _).1 ((xTo _ _).1 h1)
   exact ⟨b,h3,(xUo _ _).2 ((tUo _ _).2 ⟨a,h4,h2⟩)⟩
  ·rintro ⟨b,h3,h4⟩
   obtain ⟨a,h4,h2⟩:=(tUo _ _).1 ((xUo _ _).1 h4)
   exact ⟨a,(xTo _ _).2 ((sTo _ _).2 ⟨b,h3,h4⟩),h2⟩
 have q2:qV bO oS:=fun w v=>by
  rw [bOo,oSo,sTo,sUo]
  constructor
  ·rintro ⟨a,h1,h2⟩
   rcases (oTo _ _).1 h2 with h2|h2
   ·exact .inl ⟨a,h1,h2⟩
   ·exact .inr ⟨a,h1,h2⟩
  ·rintro (⟨a,h1,h2⟩|⟨a,h1,h2⟩)
   ·exact ⟨a,h1,(oTo _ _).2 (.inl h2)⟩
   ·exact ⟨a,h1,(oTo _ _).2 (.inr h2)⟩
 have k1:=kK s.1 t.1 s.2 t.2 (by omega) (by omega) (by omega) (by omega)
 have k2:=kK t.1 u.1 t.2 u.2 (by omega) (by omega) (by omega) (by omega)
 have k3:=kK xT.1 u.1 xT.2 u.2 (by omega) (by omega) (by omega) (by omega)
 have k4:=kK s.1 xU.1 s.2 xU.2 (by omega) (by omega) (by omega) (by omega)
 have k5:=kK s.1 u.1 s.2 u.2 (by omega) (by omega) (by omega) (by omega)
 have k6:=kK s.1 oT.1 s.2 oT.2 (by omega) (by omega) (by omega) (by omega)
 rw [c1] at k1
 rw [c2] at k2
 rw [c3] at k3
 rw [c4] at k4
 rw [c5] at k5
 rw [c6] at k6
 simp only [iC,jX,zB] at k1 k2 k3 k4 k5 k6 tr1 tr2
 simp only [fC] at or1 or2
 clear c1 c2 c3 c4 c5 c6 sTo tUo sUo xTo xUo onEo twOo oTo bOo oSo
 refine ak ?_
 refine ae ?_
 repeat (first|refine bn ?_)
 refine bY bz bW (k1) ?_
 rintro _ rfl
 refine ⟨bG,_,_,_,_,_,fU,(by decide),bu,?_⟩
 repeat (first|refine ah ?_|refine af ?_|refine dJ ?_|refine cO ?_|refine bP eH ?_)
 refine bg 96 [3,8,9,10,11,12,13] ⟨[(3,.sl w.length (HL.ints w)),(8,.bool false),(9,.ptr [.sl s.1.length (HL.bools s.1),.sl s.2.length (recs aC s.2)] 0),(10,.ptr [.sl t.1.length (HL.bools t.1),.sl t.2.length (recs aC t.2)] 0),(11,.ptr [.sl u.1.length (HL.bools u.1),.sl u.2.length (recs aC u.2)] 0),(12,.ptr (stripL [.osl 1 sT.1.length (HL.bools sT.1),.osl 4 sT.2.length (recs aC sT.2)]) 0),(13,.int .i64 0)],[],0⟩ rfl ?_
 rw [jd]
 refine ak ?_
 refine ae ?_
 repeat (first|refine bn ?_)
 refine bY bz bW (k2) ?_
 rintro _ rfl
 refine ⟨bG,_,_,_,_,_,fU,(by decide),bu,?_⟩
 repeat (first|refine ah ?_|refine af ?_|refine dJ ?_|refine cO ?_|refine bP eH ?_)
 refine bg 96 [3,8,9,10,11,12,13,14,15] ⟨[(3,.sl w.length (HL.ints w)),(8,.bool false),(9,.ptr [.sl s.1.length (HL.bools s.1),.sl s.2.length (recs aC s.2)] 0),(10,.ptr [.sl t.1.length (HL.bools t.1),.sl t.2.length (recs aC t.2)] 0),(11,.ptr [.sl u.1.length (HL.bools u.1),.sl u.2.length (recs aC u.2)] 0),(12,.ptr [.sl sT.1.length (HL.bools sT.1),.sl sT.2.length (recs aC sT.2)] 0),(13,.int .i64 0),(14,.ptr (stripL [.osl 1 tU.1.length (HL.bools tU.1),.osl 4 tU.2.length (recs aC tU.2)]) 0),(15,.int .i64 0)],[],0⟩ rfl ?_
 rw [jd]
 refine ak ?_
 refine rH [11,12] [] aT aT (fun f _ r=>if f=25 then r=.agg [.sl xT.1.length (HL.bools xT.1),.sl xT.2.length (recs aC xT.2)] else r=.tup [.agg [.osl 1 onE.1.length (HL.bools onE.1),.osl 4 onE.2.length (recs aC onE.2)],.int .i64 0]) (by simp [aG,HV.deep,bF,fM,fB]) (by simp) ?_
 repeat (first|refine bn ?_)
 refine dO bz bW tr1 ⟨_,rfl,by simp [HV.deep,bF,fM,fB]⟩ ?_
 rintro _ rfl -
 refine ⟨bG,_,_,_,_,_,fU,(by decide),bu,?_⟩
 repeat (first|refine bn ?_)
 refine dO bz bW k3 ⟨_,rfl,by simp [HV.deep,bF,fM,fB]⟩ ?_
 rintro _ rfl -
 refine ⟨bG,_,_,_,_,_,fU,(by decide),bu,?_⟩
 repeat (first|refine ah ?_|refine af ?_|refine dJ ?_|refine cO ?_|refine bP eH ?_)
 refine bg 112 [3,8,9,10,11,12,13,14,15,16,17] ⟨[(3,.sl w.length (HL.ints w)),(8,.bool false),(9,.ptr [.sl s.1.length (HL.bools s.1),.sl s.2.length (recs aC s.2)] 0),(10,.ptr [.sl t.1.length (HL.bools t.1),.sl t.2.length (recs aC t.2)] 0),(11,.ptr [.sl u.1.length (HL.bools u.1),.sl u.2.length (recs aC u.2)] 0),(12,.ptr [.sl sT.1.length (HL.bools sT.1),.sl sT.2.length (recs aC sT.2)] 0),(13,.int .i64 0),(14,.ptr [.sl tU.1.length (HL.bools tU.1),.sl tU.2.length (recs aC tU.2)] 0),(15,.int .i64 0),(16,.ptr (stripL [.osl 1 onE.1.length (HL.bools onE.1),.osl 4 onE.2.length (recs aC onE.2)]) 0),(17,.int .i64 0)],[],0⟩ rfl ?_
 rw [jd]
 refine ak ?_
 refine rH [9,14] [] aT aT (fun f _ r=>if f=25 then r=.agg [.sl xU.1.length (HL.bools xU.1),.sl xU.2.length (recs aC xU.2)] else r=.tup [.agg [.osl 1 twO.1.length (HL.bools twO.1),.osl 4 twO.2.length (recs aC twO.2)],.int .i64 0]) (by simp [aG,HV.deep,bF,fM,fB]) (by simp) ?_
 repeat (first|refine bn ?_)
 refine dO bz bW tr2 ⟨_,rfl,by simp [HV.deep,bF,fM,fB]⟩ ?_
 rintro _ rfl -
 refine ⟨bG,_,_,_,_,_,fU,(by decide),bu,?_⟩
 skip
 refine dO bz bW k4 ⟨_,rfl,by simp [HV.deep,bF,fM,fB]⟩ ?_
 rintro _ rfl -
 refine ⟨bG,_,_,_,_,_,fU,(by decide),bu,?_⟩
 repeat (first|refine ah ?_|refine af ?_|refine dJ ?_|refine cO ?_|refine bP eH ?_)
 refine bg 112 [3,8,9,10,11,12,13,14,15,16,17,18,19] ⟨[(3,.sl w.length (HL.ints w)),(8,.bool false),(9,.ptr [.sl s.1.length (HL.bools s.1),.sl s.2.length (recs aC s.2)] 0),(10,.ptr [.sl t.1.length (HL.bools t.1),.sl t.2.length (recs aC t.2)] 0),(11,.ptr [.sl u.1.length (HL.bools u.1),.sl u.2.length (recs aC u.2)] 0),(12,.ptr [.sl sT.1.length (HL.bools sT.1),.sl sT.2.length (recs aC sT.2)] 0),(13,.int .i64 0),(14,.ptr [.sl tU.1.length (HL.bools tU.1),.sl tU.2.length (recs aC tU.2)] 0),(15,.int .i64 0),(16,.ptr [.sl onE.1.length (HL.bools onE.1),.sl onE.2.length (recs aC onE.2)] 0),(17,.int .i64 0),(18,.ptr (stripL [.osl 1 twO.1.length (HL.bools twO.1),.osl 4 twO.2.length (recs aC twO.2)]) 0),(19,.int .i64 0)],[],0⟩ rfl ?_
 rw [jd]
 refine ak ?_
 refine ae ?_
 repeat (first|refine bn ?_)
 refine bY bz bW (k5) ?_
 rintro _ rfl
 refine ⟨bG,_,_,_,_,_,fU,(by decide),bu,?_⟩
 repeat (first|refine ah ?_|refine af ?_|refine dJ ?_|refine cO ?_|refine bP eH ?_)
 refine bg 96 [3,8,9,10,11,12,13,14,15,16,17,18,19,20,21] ⟨[(3,.sl w.length (HL.ints w)),(8,.bool false),(9,.ptr [.sl s.1.length (HL.bools s.1),.sl s.2.length (recs aC s.2)] 0),(10,.ptr [.sl t.1.length (HL.bools t.1),.sl t.2.length (recs aC t.2)] 0),(11,.ptr [.sl u.1.length (HL.bools u.1),.sl u.2.length (recs aC u.2)] 0),(12,.ptr [.sl sT.1.length (HL.bools sT.1),.sl sT.2.length (recs aC sT.2)] 0),(13,.int .i64 0),(14,.ptr [.sl tU.1.length (HL.bools tU.1),.sl tU.2.length (recs aC tU.2)] 0),(15,.int .i64 0),(16,.ptr [.sl onE.1.length (HL.bools onE.1),.sl onE.2.length (recs aC onE.2)] 0),(17,.int .i64 0),(18,.ptr [.sl twO.1.length (HL.bools twO.1),.sl twO.2.length (recs aC twO.2)] 0),(19,.int .i64 0),(20,.ptr (stripL [.osl 1 sU.1.length (HL.bools sU.1),.osl 4 sU.2.length (recs aC sU.2)]) 0),(21,.int .i64 0)],[],0⟩ rfl ?_
 rw [jd]
 refine ak ?_
 refine rH [9,10,11] [] aT aT (fun f _ r=>if f=29 then r=.agg [.sl oT.1.length (HL.bools oT.1),.sl oT.2.length (recs aC oT.2)] else r=.tup [.agg [.osl 1 bO.1.length (HL.bools bO.1),.osl 4 bO.2.length (recs aC bO.2)],.int .i64 0]) (by simp [aG,HV.deep,bF,fM,fB]) (by simp) ?_
 repeat (first|refine bn ?_)
 refine dO bz bW or1 ⟨_,rfl,by simp [HV.deep,bF,fM,fB]⟩ ?_
 rintro _ rfl -
 refine ⟨bG,_,_,_,_,_,fU,(by decide),bu,?_⟩
 skip
 refine dO bz bW k6 ⟨_,rfl,by simp [HV.deep,bF,fM,fB]⟩ ?_
 rintro _ rfl -
 refine ⟨bG,_,_,_,_,_,fU,(by decide),bu,?_⟩
 repeat (first|refine ah ?_|refine af ?_|refine dJ ?_|refine cO ?_|refine bP eH ?_)
 refine bg 128 [3,8,9,10,11,12,13,14,15,16,17,18,19,20,21,22,23] ⟨[(3,.sl w.length (HL.ints w)),(8,.bool false),(9,.ptr [.sl s.1.length (HL.bools s.1),.sl s.2.length (recs aC s.2)] 0),(10,.ptr [.sl t.1.length (HL.bools t.1),.sl t.2.length (recs aC t.2)] 0),(11,.ptr [.sl u.1.length (HL.bools u.1),.sl u.2.length (recs aC u.2)] 0),(12,.ptr [.sl sT.1.length (HL.bools sT.1),.sl sT.2.length (recs aC sT.2)] 0),(13,.int .i64 0),(14,.ptr [.sl tU.1.length (HL.bools tU.1),.sl tU.2.length (recs aC tU.2)] 0),(15,.int .i64 0),(16,.ptr [.sl onE.1.length (HL.bools onE.1),.sl onE.2.length (recs aC onE.2)] 0),(17,.int .i64 0),(18,.ptr [.sl twO.1.length (HL.bools twO.1),.sl twO.2.length (recs aC twO.2)] 0),(19,.int .i64 0),(20,.ptr [.sl sU.1.length (HL.bools sU.1),.sl sU.2.length (recs aC sU.2)] 0),(21,.int .i64 0),(22,.ptr (stripL [.osl 1 bO.1.length (HL.bools bO.1),.osl 4 bO.2.length (recs aC bO.2)]) 0),(23,.int .i64 0)],[],0⟩ rfl ?_
 rw [jd]
 refine dV [3,8,9,10,12,13,15,16,17,18,19,20,21,22,23] ⟨[(3,.sl w.length (HL.ints w)),(8,.bool false),(9,.ptr [.sl s.1.length (HL.bools s.1),.sl s.2.length (recs aC s.2)] 0),(10,.ptr [.sl t.1.length (HL.bools t.1),.sl t.2.length (recs aC t.2)] 0),(12,.ptr [.sl sT.1.length (HL.bools sT.1),.sl sT.2.length (recs aC sT.2)] 0),(13,.int .i64 0),(15,.int .i64 0),(16,.ptr [.sl onE.1.length (HL.bools onE.1),.sl onE.2.length (recs aC onE.2)] 0),(17,.int .i64 0),(18,.ptr [.sl twO.1.length (HL.bools twO.1),.sl twO.2.length (recs aC twO.2)] 0),(19,.int .i64 0),(20,.ptr [.sl sU.1.length (HL.bools sU.1),.sl sU.2.length (recs aC sU.2)] 0),(21,.int .i64 0),(22,.ptr [.sl bO.1.length (HL.bools bO.1),.sl bO.2.length (recs aC bO.2)] 0),(23,.int .i64 0)],[],0⟩ rfl ?_
 exact TC s t em sT onE twO sU bO oS w hwl hwr s1 s2 t1 t2 s3 t3 onEk twOk bOk oSk g2 Oz or2 q1 q2 (RZ (qh s3 Oz (by simp;omega) (by simp;omega))) (SL (qh Oz s3 (by simp;omega) (by simp;omega))) PK ⟨rfl,rfl⟩
end Go.Proofs.Ytlbdmpjnmfmnfaa
end
section
set_option linter.unusedSimpArgs false
set_option linter.unusedVariables false
namespace Go.Proofs.Ytlbdmpjnmfmnfaa
open Go.RowKit Go.HL
def xW (l:List Int):List Value:=l.map fun n=>.int .i64 n
theorem DN {F:Nat->Prop} {h:Hp} {R:HV->Value->Prop} (l:List Int):OW F h R (HL.ints l) (xW l) []:=by
 induction l with
 | nil=>exact .nil
 | cons x r ih=>exact .int ih
theorem xZ {w:World} {a:Option Addr} {len cap:Nat} {zs:List Int} (h:(a=none/\len=0/\cap=0/\zs=[]) \/
  ∃x,a=some x/\len<=cap/\cap<=maxLen/\zs.length=cap/\(∀i,i<zs.length->w.cell? (x.add i)=some (.int .i64 (zs.getD i 0)))/\∀n∈zs,(Lit.int .i64 n).wf=true) :
  OW (fun b=>b<w.heap.size) w.heap eG [I (zs.take len)] [.slice a len cap] []/\(zs.take len).length=len/\len<=9223372036854775807:=by
 have hl:(zs.take len).length=len:=by
  rcases h with ⟨_,rfl,_,rfl⟩|⟨x,_,h1,_,h3,_⟩
  ·rfl
  ·simp;omega
 have hm:len<=9223372036854775807:=by
  rcases h with ⟨_,rfl,_,rfl⟩|⟨x,_,h1,h2,_⟩
  ·omega
  ·unfold maxLen at h2;omega
 refine ⟨?_,hl,hm⟩
 unfold I
 rw [hl]
 rcases Nat.eq_zero_or_pos len with rfl|hp
 ·exact .sl0 .nil
 ·rcases h with ⟨_,h0,_⟩|⟨x,rfl,h1,h2,h3,h4,-⟩
  ·omega
  ·have h0:=h4 0 (by omega)
   obtain ⟨g,off,spot⟩:=x
   obtain ⟨cur,e,fr,hg,hs⟩:∃cur e fr,w.heap[g]?=some (.cells cur e fr)/\spot=none:=by
    simp only [Addr.add,if_true,World.cell?] at h0
    split at h0
    ·rename_i cur e fr hg
     split at h0
     ·cases h0
     ·rename_i hn;exact ⟨_,_,_,hg,by simpa using hn⟩
    ·cases h0
   subst hs
   have hcell:∀k,k<len->cur[off+k]?=some (.int .i64 (zs.getD k 0)):=by
    intro k hk
    have h5:=h4 k (by omega)
    have e1:(⟨g,off,none⟩:Addr).add k=⟨g,off+k,none⟩:=by
     unfold Addr.add;split
     ·rename_i h;subst h;rfl
     ·rfl
    rw [e1] at h5
    simpa only [World.cell?,hg,Option.isSome_none,Bool.false_eq_true,if_false] using h5
   have hrv:xW (zs.take len)=(cur.toList.drop off).take (HL.ints (zs.take len)).length:=by
    rw [HL.ints_len,hl]
    apply List.ext_getElem?
    intro k
    by_cases hk:k<len
    ·rw [List.getElem?_take,if_pos hk,List.getElem?_drop]
     have:=hcell k hk
     rw [show cur.toList[off+k]?=cur[off+k]? from by simp,this]
     rw [xW,List.getElem?_map,List.getElem?_take,if_pos hk,List.getElem?_eq_getElem (by omega)]
     simp [List.getD_eq_getElem?_getD,List.getElem?_eq_getElem (show k<zs.length by omega)]
    ·rw [List.getElem?_eq_none (by simp [xW];omega),List.getElem?_eq_none (by simp;omega)]
   exact .sl (F:=fun b=>b<w.heap.size) (Array.getElem?_eq_some_iff.1 hg).1 hg hrv h1 (DN _) .nil
theorem said_of {P:Program} {f:FuncId} {args:List HV} {rargs:List Value} {w:World} (h:HT P f args (fun r=>r=.bool true)) (ho:OW (fun b=>b<w.heap.size) w.heap eG args rargs []) :
  Calls P f rargs.toArray w fun e w'=>e=.returned (.bool true)/\Below w.heap.size w w':=by
 refine (h.2 w rargs _ (fun b hb=>hb) ho).mono ?_
 rintro e w' ⟨rv,res,fs,rfl,rfl,h1,_,_,hb⟩
 rw [of_bool h1]
 exact ⟨rfl,hb⟩
theorem uY {F:Nat->Prop} {h:Hp} {v:HV} {r:List HV} {rv:Value} {rr:List Value} (h1:OW F h eG [v] [rv] []) (h2:OW F h eG r rr []):OW F h eG (v::r) (rv::rr) []:=h1.cons1 h2
end Go.Proofs.Ytlbdmpjnmfmnfaa
end
section
set_option linter.unusedSimpArgs false
set_option linter.unusedVariables false
namespace Go.Proofs.Ytlbdmpjnmfmnfaa
open Go.RowKit Go.HL
theorem RX {n:Int} (h:(Lit.int .i64 n).wf=true) : -9223372036854775808<=n/\n<=9223372036854775807:=by
 simp only [Lit.wf,Bool.and_eq_true,decide_eq_true_eq] at h
 have e1:IntKind.i64.min = -9223372036854775808:=rfl
 have e2:IntKind.i64.max=9223372036854775807:=rfl
 rw [e1,e2] at h
 exact h
theorem xY {w:World} {a:Option Addr} {len cap:Nat} {zs:List Int} (h:(a=none/\len=0/\cap=0/\zs=[]) \/
  ∃x,a=some x/\len<=cap/\cap<=maxLen/\zs.length=cap/\(∀i,i<zs.length->w.cell? (x.add i)=some (.int .i64 (zs.getD i 0)))/\∀n∈zs,(Lit.int .i64 n).wf=true) :
  ∀k,k<(zs.take len).length -> -9223372036854775808<=(zs.take len).getD k 0/\(zs.take len).getD k 0<=9223372036854775807:=by
 intro k hk
 have hm:(zs.take len).getD k 0∈zs:=by
  rw [List.getD_eq_getElem?_getD,List.getElem?_eq_getElem hk,Option.getD_some]
  exact List.mem_of_mem_take (List.getElem_mem hk)
 rcases h with ⟨_,_,_,rfl⟩|⟨x,_,_,_,_,_,h⟩
 ·cases hm
 ·exact RX (h _ hm)
end Go.Proofs.Ytlbdmpjnmfmnfaa
end
