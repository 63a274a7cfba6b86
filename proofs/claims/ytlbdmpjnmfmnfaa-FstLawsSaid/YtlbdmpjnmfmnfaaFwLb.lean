import Derived.Test.YtlbdmpjnmfmnfaaCodesFstLaws
import Derived.Test.YtlbdmpjnmfmnfaaFv6
import Derived.Test.YtlbdmpjnmfmnfaaFva
import Derived.Test.YtlbdmpjnmfmnfaaFtY
import Derived.Test.YtlbdmpjnmfmnfaaFtU
import Derived.Test.YtlbdmpjnmfmnfaaFu1
import Derived.Test.YtlbdmpjnmfmnfaaFs5
set_option linter.unusedSimpArgs false
set_option linter.unusedVariables false
namespace Go.Proofs.Ytlbdmpjnmfmnfaa
set_option linter.unusedSimpArgs false
set_option linter.unnecessarySimpa false
open Go.RowKit Go.HL Go.FS
theorem CO (l:List Int) (hl:l.length<=9223372036854775807) (hr:∀k,k<l.length -> -9223372036854775808<=l.getD k 0/\l.getD k 0<=9223372036854775807):HT Try.prog 11 [I l] (fun r=>∃p:Tn,r=.agg (fC p)/\p.1.length<=5/\p.2.length<=9/\okF p.1 p.2=true) :=
 (Rh l hl hr).mono fun r ⟨fin,al,h1,_,h3,h4,h5⟩=>⟨(fin,al),h1,h3,h4,h5⟩
theorem Df (l:List (List Int)):stripL (win (wds l) 0 (l.length*1))=wds l:=by rw [BL,AL]
theorem Qv (l:List (List Int)):stripL (win (gr l) 0 (l.length*1))=gr l:=by rw [Nr,ER]
theorem O6 (l:List Int):stripL (win (HL.ints l) 0 (l.length*1))=HL.ints l:=by rw [jc _ (by simp [HL.ints]),HL.ints_strip]
theorem wz (p:Tn):(HV.agg (fC p)).deep=[]:=by simp [fC,HV.deep,bF,fM,fB]
theorem GY {p q:Tn} (h:fC p=fC q):p=q:=by
 obtain ⟨h1,h2⟩:=EU (show iC p.1 p.2=iC q.1 q.2 from h)
 exact Prod.ext h1 h2
def Nv (x:Tn) (f:FuncId) (args:List HV) (r:HV):Prop :=
 if f=33 then r=.bool true
 else if f=29 then r=.agg (fC x)
 else if f=30 then ∃p q:Tn,args=[.agg (fC p),.agg (fC q)]/\r=.agg (fC (jg p q))
 else ∃p:Tn,args=[.agg (fC p)]/\r=.agg (fC (iF p))
theorem FT {x:Tn} {args:List HV} {r:HV} (h:Nv x 33 args r):r=.bool true:=h
theorem Yw {x:Tn} {args:List HV} {r:HV} (h:Nv x 29 args r):r=.agg (fC x):=h
theorem Jd {x p q:Tn} {r:HV} (h:Nv x 30 [.agg (fC p),.agg (fC q)] r):r=.agg (fC (jg p q)):=by
 obtain ⟨p',q',h1,rfl⟩:=(show ∃p' q':Tn,[HV.agg (fC p),.agg (fC q)]=[.agg (fC p'),.agg (fC q')]/\r=.agg (fC (jg p' q')) from h)
 simp only [List.cons.injEq,HV.agg.injEq,and_true] at h1
 rw [GY h1.1,GY h1.2]
theorem vW {x p q:Tn} {r:HV} (h:r=.agg (fC (jg p q))):Nv x 30 [.agg (fC p),.agg (fC q)] r :=
 show ∃p' q':Tn,[HV.agg (fC p),.agg (fC q)]=[.agg (fC p'),.agg (fC q')]/\r=.agg (fC (jg p' q')) from ⟨p,q,rfl,h⟩
theorem ve {x p:Tn} {r:HV} (h:r=.agg (fC (iF p))):Nv x 34 [.agg (fC p)] r :=
 show ∃p':Tn,[HV.agg (fC p)]=[.agg (fC p')]/\r=.agg (fC (iF p')) from ⟨p,rfl,h⟩
theorem JK {x p:Tn} {r:HV} (h:Nv x 34 [.agg (fC p)] r):r=.agg (fC (iF p)):=by
 obtain ⟨p',h1,rfl⟩:=(show ∃p':Tn,[HV.agg (fC p)]=[.agg (fC p')]/\r=.agg (fC (iF p')) from h)
 simp only [List.cons.injEq,HV.agg.injEq,and_true] at h1
 rw [GY h1]
set_option maxHeartbeats 16000000 in
theorem TC (s t e sT onE twO sU bO oS:Tn) (w:List Int) (hwl:w.length<=9223372036854775807) (hwr:∀i,i<w.length -> -9223372036854775808<=w.getD i 0/\w.getD i 0<=9223372036854775807) (s1:s.1.length<=5) (s2:s.2.length<=9) (t1:t.1.length<=5) (t2:t.2.length<=9) (s3:okF s.1 s.2=true) (t3:okF t.1 t.2=true) (onEk:okF onE.1 onE.2=true) (twOk:okF twO.1 twO.2=true) (bOk:okF bO.1 bO.2=true) (oSk:okF oS.1 oS.2=true) (g2:pU [sT,sU]=true) (ek:okF e.1 e.2=true)
  (or2:HT Try.prog 29 [.agg [.sl sT.1.length (HL.bools sT.1),.sl sT.2.length (recs aC sT.2)],.agg [.sl sU.1.length (HL.bools sU.1),.sl sU.2.length (recs aC sU.2)]] (fun r=>r=.agg [.sl oS.1.length (HL.bools oS.1),.sl oS.2.length (recs aC oS.2)])) (q1:qV onE twO) (q2:qV bO oS) (q3:qV (jg s e) s) (q4:qV (jg e s) s) (hwd:HT Try.prog 32 [.nils,.nils] (fun r=>r=.agg (zB e.1 e.2))) (ex:e.1.length=1/\e.2.length=0) :
  hx Try.prog [.c Uh] (finish [8] (fun r=>r=.bool true)) ⟨[(3,.sl w.length (HL.ints w)),(8,.bool false),(9,.ptr [.sl s.1.length (HL.bools s.1),.sl s.2.length (recs aC s.2)] 0),(10,.ptr [.sl t.1.length (HL.bools t.1),.sl t.2.length (recs aC t.2)] 0),(12,.ptr [.sl sT.1.length (HL.bools sT.1),.sl sT.2.length (recs aC sT.2)] 0),(13,.int .i64 0),(15,.int .i64 0),(16,.ptr [.sl onE.1.length (HL.bools onE.1),.sl onE.2.length (recs aC onE.2)] 0),(17,.int .i64 0),(18,.ptr [.sl twO.1.length (HL.bools twO.1),.sl twO.2.length (recs aC twO.2)] 0),(19,.int .i64 0),(20,.ptr [.sl sU.1.length (HL.bools sU.1),.sl sU.2.length (recs aC sU.2)] 0),(21,.int .i64 0),(22,.ptr [.sl bO.1.length (HL.bools bO.1),.sl bO.2.length (recs aC bO.2)] 0),(23,.int .i64 0)],[],0⟩:=by
 have g3:pU [s,e]=true:=qh s3 ek (by omega) (by omega)
 have g4:pU [e,s]=true:=qh ek s3 (by omega) (by omega)
 have g5:pU [s]=true:=JQ s3 (by omega) (by omega)
 have g7:pU [s,t]=true:=qh s3 t3 (by omega) (by omega)
 obtain ⟨n3,n31,n32⟩:=then_ok g3
 obtain ⟨n4,n41,n42⟩:=then_ok g4
 obtain ⟨n5,n51,n52⟩:=Jb g5
 have g6:pU [iF s]=true:=JQ n5 (by omega) (by omega)
 obtain ⟨n6,n61,n62⟩:=Jb g6
 have q5:=KQ g5 g6
 obtain ⟨n7,n71,n72⟩:=IG g7
 have th1:=(Jm s e ⟨by omega,by omega⟩ ⟨by omega,by omega⟩).mono fun r h=>vW (x:=oS) h
 have th2:=(Jm e s ⟨by omega,by omega⟩ ⟨by omega,by omega⟩).mono fun r h=>vW (x:=oS) h
 have sr1:=(JC s ⟨by omega,by omega⟩).mono fun r h=>ve (x:=oS) h
 have sr2:=(JC (iF s) ⟨by omega,by omega⟩).mono fun r h=>ve (x:=oS) h
 have or3:=Oc s t ⟨by omega,by omega⟩ ⟨by omega,by omega⟩
 have hlist:=fun x hx=>Tz g7 (w:=x) hx
 have ag1:=fun x hx=>rP onE twO x onEk twOk q1 hx
 have ag2:=fun x hx=>rP bO oS x bOk oSk q2 hx
 have ag3:=fun x hx=>rP (jg s e) s x n3 s3 q3 hx
 have ag4:=fun x hx=>rP (jg e s) s x n4 s3 q4 hx
 have ag5:=fun x hx=>rP (iF (iF s)) (iF s) x n6 n5 q5 hx
 have dp1:=fun r=>Jd (x:=oS) (p:=s) (q:=e) (r:=r)
 have dp2:=fun r=>Jd (x:=oS) (p:=e) (q:=s) (r:=r)
 have dp3:=fun r=>JK (x:=oS) (p:=s) (r:=r)
 have dp4:=fun r=>JK (x:=oS) (p:=iF s) (r:=r)
 have ie1:∃v,Nv oS 30 [.agg (fC s),.agg (fC e)] v/\v.deep=[]:=⟨_,vW rfl,wz _⟩
 have ie2:∃v,Nv oS 30 [.agg (fC e),.agg (fC s)] v/\v.deep=[]:=⟨_,vW rfl,wz _⟩
 have ie3:∃v,Nv oS 34 [.agg (fC s)] v/\v.deep=[]:=⟨_,ve rfl,wz _⟩
 have ie4:∃v,Nv oS 34 [.agg (fC (iF s))] v/\v.deep=[]:=⟨_,ve rfl,wz _⟩
 generalize jg s e=a1 at n3 n31 n32 th1 ag3 dp1
 generalize jg e s=a2 at n4 n41 n42 th2 ag4 dp2
 generalize iF (iF s)=a4 at n6 n61 n62 sr2 ag5 dp4
 generalize iF s=a3 at n5 n51 n52 ie4 sr1 sr2 ag5 dp3 dp4 n61 n62
 generalize Bi s t=a5 at n7 n71 n72 or3 hlist
 simp only [fC] at ie1 ie2 ie3 ie4 th1 th2 sr1 sr2 or3 ag1 ag2 ag3 ag4 ag5 dp1 dp2 dp3 dp4
 simp only [zB] at hwd
 clear q1 q2 q3 q4 q5 g2 g3 g4 g5 g6 g7
 have hdp:∀ (x:Tn),(HV.agg [.sl x.1.length (HL.bools x.1),.sl x.2.length (recs aC x.2)]).deep=[]:=fun x=>wz x
 refine ak ?_
 refine ak ?_
 refine ae ?_
 repeat (first|refine ah ?_|refine aK ?_|refine af ?_|refine fA ?_|refine aO ?_)
 refine au ?_
 refine aF ?_
 refine dV [3,8,9,10,12,16,18,20,22] ⟨[(3,.sl w.length (HL.ints w)),(8,.bool false),(9,.ptr [.sl s.1.length (HL.bools s.1),.sl s.2.length (recs aC s.2)] 0),(10,.ptr [.sl t.1.length (HL.bools t.1),.sl t.2.length (recs aC t.2)] 0),(12,.ptr [.sl sT.1.length (HL.bools sT.1),.sl sT.2.length (recs aC sT.2)] 0),(16,.ptr [.sl onE.1.length (HL.bools onE.1),.sl onE.2.length (recs aC onE.2)] 0),(18,.ptr [.sl twO.1.length (HL.bools twO.1),.sl twO.2.length (recs aC twO.2)] 0),(20,.ptr [.sl sU.1.length (HL.bools sU.1),.sl sU.2.length (recs aC sU.2)] 0),(22,.ptr [.sl bO.1.length (HL.bools bO.1),.sl bO.2.length (recs aC bO.2)] 0)],[],0⟩ rfl ?_
 refine ak ?_
 refine ae ?_
 skip
 refine bY bz bW (hwd) ?_
 rintro _ rfl
 refine ⟨bG,_,_,_,_,_,fU,(by decide),bu,?_⟩
 repeat (first|refine af ?_|refine cO ?_|refine bP eH ?_)
 refine bg 16 [3,8,9,10,12,16,18,20,22,24] ⟨[(3,.sl w.length (HL.ints w)),(8,.bool false),(9,.ptr [.sl s.1.length (HL.bools s.1),.sl s.2.length (recs aC s.2)] 0),(10,.ptr [.sl t.1.length (HL.bools t.1),.sl t.2.length (recs aC t.2)] 0),(12,.ptr [.sl sT.1.length (HL.bools sT.1),.sl sT.2.length (recs aC sT.2)] 0),(16,.ptr [.sl onE.1.length (HL.bools onE.1),.sl onE.2.length (recs aC onE.2)] 0),(18,.ptr [.sl twO.1.length (HL.bools twO.1),.sl twO.2.length (recs aC twO.2)] 0),(20,.ptr [.sl sU.1.length (HL.bools sU.1),.sl sU.2.length (recs aC sU.2)] 0),(22,.ptr [.sl bO.1.length (HL.bools bO.1),.sl bO.2.length (recs aC bO.2)] 0),(24,.ptr (stripL [.osl 1 e.1.length (HL.bools e.1),.osl 4 e.2.length (recs aC e.2)]) 0)],[],0⟩ rfl ?_
 rw [jd]
 repeat (first|refine ah ?_|refine af ?_|refine ak ?_|refine ae ?_|refine aB ?_)
 refine cu [3,8,9,10,12,16,18,20,22,24,25] (fun n:Nat=>n<=5) (fun n=>⟨[(3,.sl w.length (HL.ints w)),(8,.bool false),(9,.ptr [.sl s.1.length (HL.bools s.1),.sl s.2.length (recs aC s.2)] 0),(10,.ptr [.sl t.1.length (HL.bools t.1),.sl t.2.length (recs aC t.2)] 0),(12,.ptr [.sl sT.1.length (HL.bools sT.1),.sl sT.2.length (recs aC sT.2)] 0),(16,.ptr [.sl onE.1.length (HL.bools onE.1),.sl onE.2.length (recs aC onE.2)] 0),(18,.ptr [.sl twO.1.length (HL.bools twO.1),.sl twO.2.length (recs aC twO.2)] 0),(20,.ptr [.sl sU.1.length (HL.bools sU.1),.sl sU.2.length (recs aC sU.2)] 0),(22,.ptr [.sl bO.1.length (HL.bools bO.1),.sl bO.2.length (recs aC bO.2)] 0),(24,.ptr [.sl e.1.length (HL.bools e.1),.sl e.2.length (recs aC e.2)] 0),(25,.int .i64 n)],[],0⟩) (fun n=>5 - n) 0 (by omega) rfl ?_
 intro n hn
 by_cases hn5:n<5
 ·refine ak ?_
  refine ak ?_
  refine ae ?_
  repeat (first|refine ah ?_|refine af ?_|refine D5 (by rfl) (by rfl) kC ?_)
  refine ax ?_
  refine aF ?_
  refine ak ?_
  refine aB ?_
  refine ak ?_
  refine ae ?_
  repeat (first|refine ah ?_)
  refine bY bz IE (OO w n hwl (by omega) hwr) ?_
  rintro _ ⟨x,rfl,hxl⟩
  refine ⟨bG,_,_,_,_,_,fU,(by decide),bu,?_⟩
  repeat (first|refine ah ?_|refine af ?_)
  refine bg 64 [3,8,9,10,12,16,18,20,22,24,25,26] ⟨[(3,.sl w.length (HL.ints w)),(8,.bool false),(9,.ptr [.sl s.1.length (HL.bools s.1),.sl s.2.length (recs aC s.2)] 0),(10,.ptr [.sl t.1.length (HL.bools t.1),.sl t.2.length (recs aC t.2)] 0),(12,.ptr [.sl sT.1.length (HL.bools sT.1),.sl sT.2.length (recs aC sT.2)] 0),(16,.ptr [.sl onE.1.length (HL.bools onE.1),.sl onE.2.length (recs aC onE.2)] 0),(18,.ptr [.sl twO.1.length (HL.bools twO.1),.sl twO.2.length (recs aC twO.2)] 0),(20,.ptr [.sl sU.1.length (HL.bools sU.1),.sl sU.2.length (recs aC sU.2)] 0),(22,.ptr [.sl bO.1.length (HL.bools bO.1),.sl bO.2.length (recs aC bO.2)] 0),(24,.ptr [.sl e.1.length (HL.bools e.1),.sl e.2.length (recs aC e.2)] 0),(25,.int .i64 n),(26,.sl x.length (stripL (win (HL.ints x) 0 (x.length*1))))],[],0⟩ rfl ?_
  rw [O6]
  have b1:=oU s.1 s.2 x 20 (by omega) (by omega) (by omega)
  have b2:=oU t.1 t.2 x 20 (by omega) (by omega) (by omega)
  have b3:=oU a5.1 a5.2 x 64 (by omega) (by omega) (by omega)
  have e1:=vH s.1 s.2 x 20
  have e2:=vH t.1 t.2 x 20
  have e3:=vH a5.1 a5.2 x 64
  have hol:=hlist x (by omega)
  have v1:=ag1 x (by omega)
  have v2:=ag2 x (by omega)
  have v3:=ag3 x (by omega)
  have v4:=ag4 x (by omega)
  have v5:=ag5 x (by omega)
  simp only [iC,jX,apT] at b1 b2 b3
  generalize nK s.1 s.2 x 20=f at b1 e1 hol
  generalize nK t.1 t.2 x 20=g at b2 e2 hol
  generalize nK a5.1 a5.2 x 64=h at b3 e3 hol
  refine ak ?_
  refine ak ?_
  refine rH [9,12,16,18,20,22,24,26] [] aT aT (Nv oS) (by simp [aG,HV.deep,bF,fM,fB,kJ]) (by simp) ?_
  repeat (first|refine ah ?_|refine bn ?_)
  refine dO bz bW v1 ⟨_,rfl,rfl⟩ ?_
  rintro _ hh -
  obtain rfl:=FT hh
  refine ⟨bG,_,_,_,_,_,fU,(by decide),bu,?_⟩
  repeat (first|refine ah ?_|refine aK ?_|refine gW (by rfl) ?_|refine bn ?_)
  refine dO bz bW or2 ⟨_,rfl,hdp oS⟩ ?_
  rintro _ hh -
  obtain rfl:=Yw hh
  simp only [fC]
  refine ⟨bG,_,_,_,_,_,fU,(by decide),bu,?_⟩
  repeat (first|refine ah ?_|refine aK ?_)
  refine dO bz bW v2 ⟨_,rfl,rfl⟩ ?_
  rintro _ hh -
  obtain rfl:=FT hh
  refine ⟨bG,_,_,_,_,_,fU,(by decide),bu,?_⟩
  repeat (first|refine ah ?_|refine aK ?_|refine aO ?_|refine gW (by rfl) ?_|refine bn ?_)
  refine dO bz bW th1 ie1 ?_
  rintro _ hh -
  obtain rfl:=dp1 _ hh
  refine ⟨bG,_,_,_,_,_,fU,(by decide),bu,?_⟩
  repeat (first|refine ah ?_|refine aK ?_|refine bn ?_)
  refine dO bz bW v3 ⟨_,rfl,rfl⟩ ?_
  rintro _ hh -
  obtain rfl:=FT hh
  refine ⟨bG,_,_,_,_,_,fU,(by decide),bu,?_⟩
  repeat (first|refine ah ?_|refine aK ?_|refine aO ?_|refine gW (by rfl) ?_|refine bn ?_)
  refine dO bz bW th2 ie2 ?_
  rintro _ hh -
  obtain rfl:=dp2 _ hh
  refine ⟨bG,_,_,_,_,_,fU,(by decide),bu,?_⟩
  repeat (first|refine ah ?_|refine aK ?_|refine bn ?_)
  refine dO bz bW v4 ⟨_,rfl,rfl⟩ ?_
  rintro _ hh -
  obtain rfl:=FT hh
  refine ⟨bG,_,_,_,_,_,fU,(by decide),bu,?_⟩
  repeat (first|refine ah ?_|refine aK ?_|refine aO ?_|refine gW (by rfl) ?_|refine bn ?_)
  refine dO bz bW sr1 ie3 ?_
  rintro _ hh -
  obtain rfl:=dp3 _ hh
  refine ⟨bG,_,_,_,_,_,fU,(by decide),bu,?_⟩
  repeat (first|refine aK ?_)
  refine dO bz bW sr2 ie4 ?_
  rintro _ hh -
  obtain rfl:=dp4 _ hh
  refine ⟨bG,_,_,_,_,_,fU,(by decide),bu,?_⟩
  repeat (first|refine aK ?_|refine bn ?_)
  refine dO bz bW sr1 ie3 ?_
  rintro _ hh -
  obtain rfl:=dp3 _ hh
  refine ⟨bG,_,_,_,_,_,fU,(by decide),bu,?_⟩
  repeat (first|refine ah ?_|refine aK ?_)
  refine dO bz bW v5 ⟨_,rfl,rfl⟩ ?_
  rintro _ hh -
  obtain rfl:=FT hh
  refine ⟨bG,_,_,_,_,_,fU,(by decide),bu,?_⟩
  repeat (first|refine aK ?_|refine af ?_|refine aO ?_|refine gW (by rfl) ?_)
  refine au ?_
  refine aF ?_
  refine dV [3,8,9,10,12,16,18,20,22,24,25,26] ⟨[(3,.sl w.length (HL.ints w)),(8,.bool false),(9,.ptr [.sl s.1.length (HL.bools s.1),.sl s.2.length (recs aC s.2)] 0),(10,.ptr [.sl t.1.length (HL.bools t.1),.sl t.2.length (recs aC t.2)] 0),(12,.ptr [.sl sT.1.length (HL.bools sT.1),.sl sT.2.length (recs aC sT.2)] 0),(16,.ptr [.sl onE.1.length (HL.bools onE.1),.sl onE.2.length (recs aC onE.2)] 0),(18,.ptr [.sl twO.1.length (HL.bools twO.1),.sl twO.2.length (recs aC twO.2)] 0),(20,.ptr [.sl sU.1.length (HL.bools sU.1),.sl sU.2.length (recs aC sU.2)] 0),(22,.ptr [.sl bO.1.length (HL.bools bO.1),.sl bO.2.length (recs aC bO.2)] 0),(24,.ptr [.sl e.1.length (HL.bools e.1),.sl e.2.length (recs aC e.2)] 0),(25,.int .i64 n),(26,.sl x.length (HL.ints x))],[],0⟩ rfl ?_
  refine ak ?_
  refine ae ?_
  repeat (first|refine ah ?_|refine bn ?_)
  refine bY bz bW (b1) ?_
  rintro _ rfl
  refine ⟨bG,_,_,_,_,_,fU,(by decide),bu,?_⟩
  repeat (first|refine ah ?_|refine af ?_|refine dJ ?_)
  refine bg 32 [3,8,9,10,12,16,18,20,22,24,25,26,27,28] ⟨[(3,.sl w.length (HL.ints w)),(8,.bool false),(9,.ptr [.sl s.1.length (HL.bools s.1),.sl s.2.length (recs aC s.2)] 0),(10,.ptr [.sl t.1.length (HL.bools t.1),.sl t.2.length (recs aC t.2)] 0),(12,.ptr [.sl sT.1.length (HL.bools sT.1),.sl sT.2.length (recs aC sT.2)] 0),(16,.ptr [.sl onE.1.length (HL.bools onE.1),.sl onE.2.length (recs aC onE.2)] 0),(18,.ptr [.sl twO.1.length (HL.bools twO.1),.sl twO.2.length (recs aC twO.2)] 0),(20,.ptr [.sl sU.1.length (HL.bools sU.1),.sl sU.2.length (recs aC sU.2)] 0),(22,.ptr [.sl bO.1.length (HL.bools bO.1),.sl bO.2.length (recs aC bO.2)] 0),(24,.ptr [.sl e.1.length (HL.bools e.1),.sl e.2.length (recs aC e.2)] 0),(25,.int .i64 n),(26,.sl x.length (HL.ints x)),(27,.sl f.1.length (stripL (win (wds f.1) 0 (f.1.length*1)))),(28,.int .i64 f.2)],[],0⟩ rfl ?_
  rw [Df]
  refine y7 27 f.1 rfl ?_
  refine ak ?_
  refine ae ?_
  repeat (first|refine ah ?_|refine bn ?_)
  refine bY bz bW (b2) ?_
  rintro _ rfl
  refine ⟨bG,_,_,_,_,_,fU,(by decide),bu,?_⟩
  repeat (first|refine ah ?_|refine af ?_|refine dJ ?_)
  refine bg 32 [3,8,9,10,12,16,18,20,22,24,25,26,27,28,29,30] ⟨[(3,.sl w.length (HL.ints w)),(8,.bool false),(9,.ptr [.sl s.1.length (HL.bools s.1),.sl s.2.length (recs aC s.2)] 0),(10,.ptr [.sl t.1.length (HL.bools t.1),.sl t.2.length (recs aC t.2)] 0),(12,.ptr [.sl sT.1.length (HL.bools sT.1),.sl sT.2.length (recs aC sT.2)] 0),(16,.ptr [.sl onE.1.length (HL.bools onE.1),.sl onE.2.length (recs aC onE.2)] 0),(18,.ptr [.sl twO.1.length (HL.bools twO.1),.sl twO.2.length (recs aC twO.2)] 0),(20,.ptr [.sl sU.1.length (HL.bools sU.1),.sl sU.2.length (recs aC sU.2)] 0),(22,.ptr [.sl bO.1.length (HL.bools bO.1),.sl bO.2.length (recs aC bO.2)] 0),(24,.ptr [.sl e.1.length (HL.bools e.1),.sl e.2.length (recs aC e.2)] 0),(25,.int .i64 n),(26,.sl x.length (HL.ints x)),(27,.sl f.1.length (gr f.1)),(28,.int .i64 f.2),(29,.sl g.1.length (stripL (win (wds g.1) 0 (g.1.length*1)))),(30,.int .i64 g.2)],[],0⟩ rfl ?_
  rw [Df]
  refine y7 29 g.1 rfl ?_
  refine ak ?_
  refine ae ?_
  repeat (first|refine bn ?_)
  refine bY bz bW (or3) ?_
  rintro _ rfl
  refine ⟨bG,_,_,_,_,_,fU,(by decide),bu,?_⟩
  repeat (first|refine ah ?_)
  refine bY bz bW (b3) ?_
  rintro _ rfl
  refine ⟨bG,_,_,_,_,_,fU,(by decide),bu,?_⟩
  repeat (first|refine ah ?_|refine af ?_|refine dJ ?_)
  refine bg 64 [3,8,9,10,12,16,18,20,22,24,25,26,27,28,29,30,31,32] ⟨[(3,.sl w.length (HL.ints w)),(8,.bool false),(9,.ptr [.sl s.1.length (HL.bools s.1),.sl s.2.length (recs aC s.2)] 0),(10,.ptr [.sl t.1.length (HL.bools t.1),.sl t.2.length (recs aC t.2)] 0),(12,.ptr [.sl sT.1.length (HL.bools sT.1),.sl sT.2.length (recs aC sT.2)] 0),(16,.ptr [.sl onE.1.length (HL.bools onE.1),.sl onE.2.length (recs aC onE.2)] 0),(18,.ptr [.sl twO.1.length (HL.bools twO.1),.sl twO.2.length (recs aC twO.2)] 0),(20,.ptr [.sl sU.1.length (HL.bools sU.1),.sl sU.2.length (recs aC sU.2)] 0),(22,.ptr [.sl bO.1.length (HL.bools bO.1),.sl bO.2.length (recs aC bO.2)] 0),(24,.ptr [.sl e.1.length (HL.bools e.1),.sl e.2.length (recs aC e.2)] 0),(25,.int .i64 n),(26,.sl x.length (HL.ints x)),(27,.sl f.1.length (gr f.1)),(28,.int .i64 f.2),(29,.sl g.1.length (gr g.1)),(30,.int .i64 g.2),(31,.sl h.1.length (stripL (win (wds h.1) 0 (h.1.length*1)))),(32,.int .i64 h.2)],[],0⟩ rfl ?_
  rw [Df]
  refine y7 31 h.1 rfl ?_
  refine dV [3,8,9,10,12,16,18,20,22,24,25,26,27,28,29,30,31,32] ⟨[(3,.sl w.length (HL.ints w)),(8,.bool false),(9,.ptr [.sl s.1.length (HL.bools s.1),.sl s.2.length (recs aC s.2)] 0),(10,.ptr [.sl t.1.length (HL.bools t.1),.sl t.2.length (recs aC t.2)] 0),(12,.ptr [.sl sT.1.length (HL.bools sT.1),.sl sT.2.length (recs aC sT.2)] 0),(16,.ptr [.sl onE.1.length (HL.bools onE.1),.sl onE.2.length (recs aC onE.2)] 0),(18,.ptr [.sl twO.1.length (HL.bools twO.1),.sl twO.2.length (recs aC twO.2)] 0),(20,.ptr [.sl sU.1.length (HL.bools sU.1),.sl sU.2.length (recs aC sU.2)] 0),(22,.ptr [.sl bO.1.length (HL.bools bO.1),.sl bO.2.length (recs aC bO.2)] 0),(24,.ptr [.sl e.1.length (HL.bools e.1),.sl e.2.length (recs aC e.2)] 0),(25,.int .i64 n),(26,.sl x.length (HL.ints x)),(27,.sl f.1.length (gr f.1)),(28,.int .i64 f.2),(29,.sl g.1.length (gr g.1)),(30,.int .i64 g.2),(31,.sl h.1.length (gr h.1)),(32,.int .i64 h.2)],[],0⟩ rfl ?_
  by_cases z1:f.2=0
  ·by_cases z2:g.2=0
   ·obtain rfl:=hol z1 z2
    repeat (first|refine ah ?_|refine aK ?_|refine af ?_|refine fA ?_|refine aO ?_|refine au ?_|refine ak ?_|refine ae ?_|refine aF ?_)
    repeat (first|refine ah ?_|refine af ?_|refine bQ ?_|refine gV ?_)
    refine bg 128 [3,8,9,10,12,16,18,20,22,24,25,29,31,32,33] ⟨[(3,.sl w.length (HL.ints w)),(8,.bool false),(9,.ptr [.sl s.1.length (HL.bools s.1),.sl s.2.length (recs aC s.2)] 0),(10,.ptr [.sl t.1.length (HL.bools t.1),.sl t.2.length (recs aC t.2)] 0),(12,.ptr [.sl sT.1.length (HL.bools sT.1),.sl sT.2.length (recs aC sT.2)] 0),(16,.ptr [.sl onE.1.length (HL.bools onE.1),.sl onE.2.length (recs aC onE.2)] 0),(18,.ptr [.sl twO.1.length (HL.bools twO.1),.sl twO.2.length (recs aC twO.2)] 0),(20,.ptr [.sl sU.1.length (HL.bools sU.1),.sl sU.2.length (recs aC sU.2)] 0),(22,.ptr [.sl bO.1.length (HL.bools bO.1),.sl bO.2.length (recs aC bO.2)] 0),(24,.ptr [.sl e.1.length (HL.bools e.1),.sl e.2.length (recs aC e.2)] 0),(25,.int .i64 n),(29,.sl g.1.length (gr g.1)),(31,.sl (insL g.1 f.1).length (gr (insL g.1 f.1))),(32,.int .i64 0),(33,.sl f.1.length (stripL (win (gr f.1) 0 (f.1.length*1))))],[],0⟩ rfl ?_
    rw [Qv]
    repeat (first|refine ah ?_|refine af ?_|refine ak ?_|refine ae ?_|refine aB ?_)
    refine cu [3,8,9,10,12,16,18,20,22,24,25,29,31,32,33,34] (fun k:Nat=>k<=g.1.length) (fun k=>⟨[(3,.sl w.length (HL.ints w)),(8,.bool false),(9,.ptr [.sl s.1.length (HL.bools s.1),.sl s.2.length (recs aC s.2)] 0),(10,.ptr [.sl t.1.length (HL.bools t.1),.sl t.2.length (recs aC t.2)] 0),(12,.ptr [.sl sT.1.length (HL.bools sT.1),.sl sT.2.length (recs aC sT.2)] 0),(16,.ptr [.sl onE.1.length (HL.bools onE.1),.sl onE.2.length (recs aC onE.2)] 0),(18,.ptr [.sl twO.1.length (HL.bools twO.1),.sl twO.2.length (recs aC twO.2)] 0),(20,.ptr [.sl sU.1.length (HL.bools sU.1),.sl sU.2.length (recs aC sU.2)] 0),(22,.ptr [.sl bO.1.length (HL.bools bO.1),.sl bO.2.length (recs aC bO.2)] 0),(24,.ptr [.sl e.1.length (HL.bools e.1),.sl e.2.length (recs aC e.2)] 0),(25,.int .i64 n),(29,.sl g.1.length (gr g.1)),(31,.sl (insL g.1 f.1).length (gr (insL g.1 f.1))),(32,.int .i64 0),(33,.sl (insL (g.1.take k) f.1).length (gr (insL (g.1.take k) f.1))),(34,.int .i64 k)],[],0⟩) (fun k=>g.1.length - k) 0 (by omega) rfl ?_
    intro k hk
    have hil:=Fe (x:=g.1.take k) (all:=f.1)
    rw [List.length_take] at hil
    have hsh:∀j,∀v∈insL (g.1.take j) f.1,v.length<=1000000000:=fun j v hv=>by
     rcases mem_insL.1 hv with hv|hv
     ·exact Nat.le_trans (e1.2 v hv) (by decide)
     ·exact Nat.le_trans (e2.2 v (List.mem_of_mem_take hv)) (by decide)
    by_cases hkl:k<g.1.length
    ·have hst:=KA (all:=f.1) hkl
     have hmm:g.1.getD k []∈g.1:=by rw [List.getD_eq_getElem?_getD,List.getElem?_eq_getElem hkl];exact List.getElem_mem _
     have hins:=SY (insL (g.1.take k) f.1) (g.1.getD k []) (by omega) (hsh k) (Nat.le_trans (e2.2 _ hmm) (by decide))
     rw [<- hst] at hins
     refine ak ?_
     refine ak ?_
     refine ae ?_
     repeat (first|refine ah ?_|refine af ?_|refine az ?_|refine aQ ?_)
     refine ax ?_
     refine aF ?_
     refine ak ?_
     refine aB ?_
     refine ae ?_
     repeat (first|refine ah ?_|refine aU ?_|refine bZ ?_)
     refine bY bz bW (hins) ?_
     rintro _ rfl
     refine ⟨bG,_,_,_,_,_,fU,(by decide),bu,?_⟩
     repeat (first|refine ah ?_|refine af ?_|refine fK ?_)
     refine bg 144 [3,8,9,10,12,16,18,20,22,24,25,29,31,32,33,34] ⟨[(3,.sl w.length (HL.ints w)),(8,.bool false),(9,.ptr [.sl s.1.length (HL.bools s.1),.sl s.2.length (recs aC s.2)] 0),(10,.ptr [.sl t.1.length (HL.bools t.1),.sl t.2.length (recs aC t.2)] 0),(12,.ptr [.sl sT.1.length (HL.bools sT.1),.sl sT.2.length (recs aC sT.2)] 0),(16,.ptr [.sl onE.1.length (HL.bools onE.1),.sl onE.2.length (recs aC onE.2)] 0),(18,.ptr [.sl twO.1.length (HL.bools twO.1),.sl twO.2.length (recs aC twO.2)] 0),(20,.ptr [.sl sU.1.length (HL.bools sU.1),.sl sU.2.length (recs aC sU.2)] 0),(22,.ptr [.sl bO.1.length (HL.bools bO.1),.sl bO.2.length (recs aC bO.2)] 0),(24,.ptr [.sl e.1.length (HL.bools e.1),.sl e.2.length (recs aC e.2)] 0),(25,.int .i64 n),(29,.sl g.1.length (gr g.1)),(31,.sl (insL g.1 f.1).length (gr (insL g.1 f.1))),(32,.int .i64 0),(33,.sl (insL (g.1.take (k+1)) f.1).length (stripL (win (gr (insL (g.1.take (k+1)) f.1)) 0 ((insL (g.1.take (k+1)) f.1).length*1)))),(34,.int .i64 k)],[],0⟩ rfl ?_
     rw [Qv]
     repeat (first|refine ah ?_|refine af ?_|refine bH ?_|refine ae ?_)
     exact dB [3,8,9,10,12,16,18,20,22,24,25,29,31,32,33,34] (k+1) hkl (by omega) rfl
    ·obtain rfl:k=g.1.length:=by omega
     have hsw:=AU (insL g.1 f.1) (insL g.1 f.1) (by rw [List.take_length] at hil;omega) (by rw [List.take_length] at hil;omega) (by have:=hsh g.1.length;rw [List.take_length] at this;exact this) (by have:=hsh g.1.length;rw [List.take_length] at this;exact this)
     rw [decide_eq_true rfl] at hsw
     rw [List.take_length]
     repeat (first|refine ah ?_|refine aK ?_|refine af ?_|refine az ?_|refine fA ?_|refine aQ ?_|refine bK (by rfl) ?_|refine au ?_|refine ak ?_|refine ae ?_)
     refine bY bz bW (hsw) ?_
     rintro _ rfl
     refine ⟨bG,_,_,_,_,_,fU,(by decide),bu,?_⟩
     repeat (first|refine ah ?_|refine aK ?_|refine af ?_|refine aO ?_|refine bH ?_|refine au ?_|refine ae ?_|refine fK ?_|refine aF ?_|refine gW (by rfl) ?_)
     exact dB [3,8,9,10,12,16,18,20,22,24,25] (n+1) (by omega) (by omega) rfl
   ·repeat (first|refine ah ?_|refine aK ?_|refine af ?_|refine fA ?_|refine aO ?_|refine bH ?_|refine bK (by rfl) ?_|refine ax ?_|refine ak ?_|refine ae ?_)
    exact dB [3,8,9,10,12,16,18,20,22,24,25] (n+1) (by omega) (by omega) rfl
  ·repeat (first|refine ah ?_|refine dH ?_|refine af ?_|refine fA ?_|refine aS ?_|refine bH ?_|refine bK (by rfl) ?_|refine ax ?_|refine ak ?_|refine ae ?_)
   exact dB [3,8,9,10,12,16,18,20,22,24,25] (n+1) (by omega) (by omega) rfl
 ·obtain rfl:n=5:=by omega
  have hlv:=H8
  repeat (first|refine ah ?_|refine af ?_|refine bK (by rfl) ?_|refine au ?_|refine ak ?_|refine ae ?_|refine D5 (by rfl) (by rfl) kC ?_)
  refine bY bz bW (hlv) ?_
  rintro _ rfl
  refine ⟨bG,_,_,_,_,_,fU,(by decide),bu,?_⟩
  repeat (first|refine ah ?_|refine af ?_)
  refine ay ?_
  rfl
end Go.Proofs.Ytlbdmpjnmfmnfaa
