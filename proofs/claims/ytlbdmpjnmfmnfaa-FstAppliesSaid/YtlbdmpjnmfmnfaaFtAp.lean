import Derived.Test.YtlbdmpjnmfmnfaaCodesFstApplies
import Derived.Test.YtlbdmpjnmfmnfaaFs5
import Derived.Test.YtlbdmpjnmfmnfaaFs4
import Derived.Test.YtlbdmpjnmfmnfaaFt9
set_option linter.unusedSimpArgs false
set_option linter.unusedVariables false
namespace Go.Proofs.Ytlbdmpjnmfmnfaa
open Go.RowKit Go.HL Go.FS
theorem JA (fin:List Bool) (al:List A) (h:fin.length<=9000) (h2:al.length<=9000):(trimF fin al).1.length<=9000/\(trimF fin al).2.length<=9000:=by
 unfold trimF
 split
 ·split
  ·have h3:=AA (k:=jZ fin al) al
   have h4:=cnt_le (k:=jZ fin al) (i:=fin.length)
   simp only [xG]
   omega
  ·simp
 ·simp
theorem G7:Int.toNat 1025=1025:=rfl
attribute [go_sem] G7
set_option maxHeartbeats 8000000 in
theorem yf (l w raw:List Int) (most at_ how:Int) (hl:l.length<=9223372036854775807) (hr:∀k,k<l.length -> -9223372036854775808<=l.getD k 0/\l.getD k 0<=9223372036854775807) (hw:w.length<=9223372036854775807) (hwr:∀k,k<w.length -> -9223372036854775808<=w.getD k 0/\w.getD k 0<=9223372036854775807) (hrl:raw.length<=9223372036854775807)
  (hm : -9223372036854775808<=most/\most<=9223372036854775807) (ha : -9223372036854775808<=at_/\at_<=9223372036854775807) (hh : -9223372036854775808<=how/\how<=9223372036854775807) :
  HT Try.prog 3 [I l,I w,I raw,.int .i64 most,.int .i64 at_,.int .i64 how] (fun r=>r=.bool true):=by
 refine HT.of rfl fc3 (Nat.le_of_ble_eq_true rfl) ?_
 unfold c3
 simp only [I,aX,Nat.reduceAdd]
 repeat (first|refine ah ?_|refine af ?_|refine au ?_|refine ae ?_)
 refine dF bW MX (Td l hl hr) ?_
 rintro _ ⟨fin,al,rfl,hf1,hf2,hal⟩
 simp only [fK,gX]
 refine ⟨cO,_,_,_,_,_,gY,(by decide),bT,?_⟩
 repeat (first|refine af ?_|refine dw ?_|refine bU dN ?_)
 refine bF 48 [1,2,3,4,5,12,13] ⟨[(1,.sl w.length (HL.ints w)),(2,.sl raw.length (HL.ints raw)),(3,.int .i64 most),(4,.int .i64 at_),(5,.int .i64 how),(12,.bool false),(13,.ptr (stripL [.sl fin.length (HL.bools fin),.sl al.length (recs aC al)]) 0)],[],0⟩ rfl ?_
 rw [jy]
 have hsp:=I5 fin al at_ how (by omega) (by omega) ha hh
 have htr:=Lt fin al (by omega) (by omega)
 obtain ⟨t1,t2⟩:=JA fin al (by omega) (by omega)
 generalize trimF fin al=tt at htr t1 t2
 simp only [fK,gX] at hsp htr
 refine au ?_
 refine dG bu bu (fun f _ r=>if f=12 then (∃fin al,r=.agg [.sl fin.length (HL.bools fin),.sl al.length (recs aC al)]/\fin.length<=9000/\al.length<=9000) else r=.agg [.sl tt.1.length (HL.bools tt.1),.sl tt.2.length (recs aC tt.2)]) ?_
 repeat (first|refine ah ?_|refine bz ?_)
 refine fD bW dm hsp ⟨.agg [.sl 0 (HL.bools []),.sl 0 (recs aC [])],⟨[],[],rfl,by simp,by simp⟩,rfl⟩ ?_
 rintro _ ⟨f2,a2,rfl,hf3,ha3⟩ -
 refine ⟨cO,_,_,_,_,_,gY,(by decide),bT,?_⟩
 repeat (first|refine bz ?_)
 refine fD bW dm htr ⟨_,rfl,by simp [HV.deep,bK,jD,jP]⟩ ?_
 rintro _ rfl -
 refine ⟨cO,_,_,_,_,_,gY,(by decide),bT,?_⟩
 repeat (first|refine ah ?_|refine af ?_|refine bP ?_)
 refine bF 112 [1,2,3,12,13,14] ⟨[(1,.sl w.length (HL.ints w)),(2,.sl raw.length (HL.ints raw)),(3,.int .i64 most),(12,.bool false),(13,.ptr [.sl fin.length (HL.bools fin),.sl al.length (recs aC al)] 0),(14,.sl 3 (stripL [.sl fin.length (HL.bools fin),.sl al.length (recs aC al),.sl f2.length (HL.bools f2),.sl a2.length (recs aC a2),.sl tt.1.length (HL.bools tt.1),.sl tt.2.length (recs aC tt.2)]))],[],0⟩ rfl ?_
 rw [show stripL [.sl fin.length (HL.bools fin),.sl al.length (recs aC al),.sl f2.length (HL.bools f2),.sl a2.length (recs aC a2),.sl tt.1.length (HL.bools tt.1),.sl tt.2.length (recs aC tt.2)]=recs fC [(fin,al),(f2,a2),tt] by simp only [stripL,HV.strip,HL.bools_strip,jg];rfl]
 obtain ⟨T,hT⟩:∃T,T=[(fin,al),(f2,a2),tt]:=⟨_,rfl⟩
 have hTl:T.length=3:=by rw [hT];rfl
 have hTb:∀k,(T.getD k default).1.length<=9000/\(T.getD k default).2.length<=9000:=fun k=>by
  rw [hT]
  rcases k with _|_|_|k
  ·exact ⟨by simp only [List.getD_cons_zero];omega,by simp only [List.getD_cons_zero];omega⟩
  ·exact ⟨hf3,ha3⟩
  ·exact ⟨t1,t2⟩
  ·exact ⟨Nat.zero_le _,Nat.zero_le _⟩
 rw [<- hT]
 clear hT hsp htr t1 t2 hf3 ha3 ha hh
 repeat (first|refine ah ?_|refine au ?_|refine ae ?_)
 refine dF bW MX (Jl w 6 hw (by omega) hwr) ?_
 rintro _ ⟨u,rfl,hu⟩
 refine ⟨cO,_,_,_,_,_,gY,(by decide),bT,?_⟩
 repeat (first|refine ah ?_)
 refine dF bW MX (LP raw 5 hrl (by omega)) ?_
 rintro _ rfl
 have hv:(raw.take 5).length<=5:=by rw [List.length_take];omega
 generalize raw.take 5=v at hv
 refine ⟨cO,_,_,_,_,_,gY,(by decide),bT,?_⟩
 repeat (first|refine ah ?_|refine af ?_|refine oN dN bW aI iW (by simp) (by rfl) (by rfl) (by rfl) ?_)
 refine bF 64 [3,12,13,14,15] ⟨[(3,.int .i64 most),(12,.bool false),(13,.ptr [.sl fin.length (HL.bools fin),.sl al.length (recs aC al)] 0),(14,.sl 3 (recs fC T)),(15,.sl 3 (stripL [.osl 1 u.length (HL.ints u),.osl 1 v.length (HL.ints v),.nils]))],[],0⟩ rfl ?_
 rw [show stripL [.osl 1 u.length (HL.ints u),.osl 1 v.length (HL.ints v),.nils]=[some u,some v,none].map wE by simp only [stripL,HV.strip,HL.ints_strip];rfl]
 obtain ⟨W,hW⟩:∃W,W=[some u,some v,none]:=⟨_,rfl⟩
 have hWl:W.length=3:=by rw [hW];rfl
 have hWb:∀k,((W.getD k none).getD []).length<=6:=fun k=>by
  rw [hW]
  rcases k with _|_|_|k
  ·exact hu
  ·exact Nat.le_trans hv (by decide)
  ·exact Nat.zero_le _
  ·exact Nat.zero_le _
 rw [<- hW]
 clear hW hu hv hw hwr hrl hl hr
 repeat (first|refine ah ?_|refine au ?_|refine ae ?_)
 refine dF bW dm (nP most 9 (by omega) (by omega) hm.1 hm.2) ?_
 rintro _ ⟨y,rfl,hy⟩
 refine ⟨cO,_,_,_,_,_,gY,(by decide),bT,?_⟩
 repeat (first|refine ah ?_|refine af ?_|refine bf ?_|refine bP ?_)
 refine bF 64 [12,13,14,15,16] ⟨[(12,.bool false),(13,.ptr [.sl fin.length (HL.bools fin),.sl al.length (recs aC al)] 0),(14,.sl 3 (recs fC T)),(15,.sl 3 (W.map wE)),(16,.sl 3 (HL.ints [most,1+(y:Int),4]))],[],0⟩ rfl ?_
 obtain ⟨M,hM⟩:∃M,M=[most,1+(y:Int),4]:=⟨_,rfl⟩
 have hMl:M.length=3:=by rw [hM];rfl
 rw [<- hM]
 clear hM hy hm
 repeat (first|refine ah ?_|refine af ?_|refine au ?_|refine ae ?_|refine aA ?_)
 refine bQ [12,13,14,15,16,17] (fun i:Nat=>i<=3) (fun i=>⟨[(12,.bool false),(13,.ptr [.sl fin.length (HL.bools fin),.sl al.length (recs aC al)] 0),(14,.sl 3 (recs fC T)),(15,.sl 3 (W.map wE)),(16,.sl 3 (HL.ints M)),(17,.int .i64 i)],[],0⟩) (fun i=>3 - i) 0 (by omega) rfl ?_
 intro i hi
 by_cases hil:i<3
 ·repeat (first|refine ah ?_|refine af ?_|refine ay ?_|refine ak ?_|refine au ?_|refine ae ?_|refine aA ?_|refine aH ?_)
  refine bQ [12,13,14,15,16,17,18] (fun k:Nat=>k<=3) (fun k=>⟨[(12,.bool false),(13,.ptr [.sl fin.length (HL.bools fin),.sl al.length (recs aC al)] 0),(14,.sl 3 (recs fC T)),(15,.sl 3 (W.map wE)),(16,.sl 3 (HL.ints M)),(17,.int .i64 i),(18,.int .i64 k)],[],0⟩) (fun k=>3 - k) 0 (by omega) rfl ?_
  intro k hk
  by_cases hkl:k<3
  ·have hb:=hTb i
   have hwb:((W.getD k none).getD []).length<=9223372036854775807:=Nat.le_trans (hWb k) (by decide)
   cases ho:W.getD k none with
   | none =>
    rw [ho] at hwb
    have hx1:=uD (T.getD i default).1 (T.getD i default).2 (none) (M.getD k 0) (by omega) (by omega) hwb
    have hx2:=vX (T.getD i default).1 (T.getD i default).2 (none) (M.getD k 0) (by omega) (by omega) hwb
    have hd:=Cm (T.getD i default).1 (T.getD i default).2 ((none).getD []) (M.getD k 0)
    have hsl:=Gf (T.getD i default).1 (T.getD i default).2 ((none).getD []) (M.getD k 0)
    simp only [fK,gX,wE] at hx1 hx2
    unfold Ji at hx1 hx2 hd
    generalize xZ (T.getD i default).1 (T.getD i default).2 ((none).getD []) (M.getD k 0)=q at hx1 hx2 hd hsl
    have hsw:=lM q.1 q.1 (by omega) (by omega) (fun u hu=>Nat.le_trans (hsl.2 u hu) (by decide)) (fun u hu=>Nat.le_trans (hsl.2 u hu) (by decide))
    rw [decide_eq_true rfl] at hsw
    repeat (first|refine ah ?_|refine af ?_|refine ay ?_|refine ak ?_|refine au ?_|refine ae ?_|refine aA ?_|refine aH ?_)
    refine dG bu bu (fun _ _ r=>r=.tup [.osl 1 q.1.length (wds q.1),.int .i64 q.2]) ?_
    repeat (first|refine ah ?_|refine aJ ?_|refine dA (by rfl) aG (by (try simp (disch:=omega) only [go_sem,ho,wE]);try rfl) ?_|refine gB (by rfl) aG (by (try simp (disch:=omega) only [go_sem,reduceIte,Nat.reduceEqDiff,Nat.reduceAdd,Nat.reduceMul,ho,wE]);try rfl) ?_)
    refine fD bW dm hx1 ⟨_,rfl,hd⟩ ?_
    rintro _ rfl -
    refine ⟨cO,_,_,_,_,_,gY,(by decide),bT,?_⟩
    repeat (first|refine ah ?_|refine af ?_|refine dZ ?_)
    refine au ?_
    refine dG bu bu (fun _ _ r=>r=.tup [.osl 1 q.1.length (wds q.1),.int .i64 q.2]) ?_
    repeat (first|refine ah ?_|refine aJ ?_|refine dA (by rfl) aG (by (try simp (disch:=omega) only [go_sem,ho,wE]);try rfl) ?_|refine gB (by rfl) aG (by (try simp (disch:=omega) only [go_sem,reduceIte,Nat.reduceEqDiff,Nat.reduceAdd,Nat.reduceMul,ho,wE]);try rfl) ?_)
    refine fD bW dm hx2 ⟨_,rfl,hd⟩ ?_
    rintro _ rfl -
    refine ⟨cO,_,_,_,_,_,gY,(by decide),bT,?_⟩
    repeat (first|refine ah ?_|refine aO ?_|refine af ?_|refine lh (by rfl) (by rfl) lw ?_|refine dZ ?_|refine au ?_|refine ae ?_)
    refine dF bW (by simp (disch:=omega) only [fQ,xM,y9,HV.thaw,eu,aV,aT,if_true,if_false,reduceIte,Nat.reduceEqDiff,stripL,HV.strip,jR,jA,Nat.mul_one,List.cons_append,List.nil_append,List.append_nil,I,Bl,T3,List.getD_cons_zero,List.getD_cons_succ,HL.ints_strip,HL.bools_strip,jM];try rfl) (hsw) ?_
    rintro _ rfl
    refine ⟨cO,_,_,_,_,_,gY,(by decide),bT,?_⟩
    repeat (first|refine ah ?_|refine aO ?_|refine af ?_|refine aN ?_|refine bf ?_|refine ax ?_|refine ae ?_|refine dH ?_|refine aH ?_|refine gI (by rfl) ?_)
    exact bZ [12,13,14,15,16,17,18] (k+1) hkl (by omega) rfl
   | some x =>
    rw [ho] at hwb
    have hx1:=uD (T.getD i default).1 (T.getD i default).2 (some x) (M.getD k 0) (by omega) (by omega) hwb
    have hx2:=vX (T.getD i default).1 (T.getD i default).2 (some x) (M.getD k 0) (by omega) (by omega) hwb
    have hd:=Cm (T.getD i default).1 (T.getD i default).2 ((some x).getD []) (M.getD k 0)
    have hsl:=Gf (T.getD i default).1 (T.getD i default).2 ((some x).getD []) (M.getD k 0)
    simp only [fK,gX,wE] at hx1 hx2
    unfold Ji at hx1 hx2 hd
    generalize xZ (T.getD i default).1 (T.getD i default).2 ((some x).getD []) (M.getD k 0)=q at hx1 hx2 hd hsl
    have hsw:=lM q.1 q.1 (by omega) (by omega) (fun u hu=>Nat.le_trans (hsl.2 u hu) (by decide)) (fun u hu=>Nat.le_trans (hsl.2 u hu) (by decide))
    rw [decide_eq_true rfl] at hsw
    repeat (first|refine ah ?_|refine af ?_|refine ay ?_|refine ak ?_|refine au ?_|refine ae ?_|refine aA ?_|refine aH ?_)
    refine dG bu bu (fun _ _ r=>r=.tup [.osl 1 q.1.length (wds q.1),.int .i64 q.2]) ?_
    repeat (first|refine ah ?_|refine aJ ?_|refine dA (by rfl) aG (by (try simp (disch:=omega) only [go_sem,ho,wE]);try rfl) ?_|refine gB (by rfl) aG (by (try simp (disch:=omega) only [go_sem,reduceIte,Nat.reduceEqDiff,Nat.reduceAdd,Nat.reduceMul,ho,wE]);try rfl) ?_)
    refine fD bW dm hx1 ⟨_,rfl,hd⟩ ?_
    rintro _ rfl -
    refine ⟨cO,_,_,_,_,_,gY,(by decide),bT,?_⟩
    repeat (first|refine ah ?_|refine af ?_|refine dZ ?_)
    refine au ?_
    refine dG bu bu (fun _ _ r=>r=.tup [.osl 1 q.1.length (wds q.1),.int .i64 q.2]) ?_
    repeat (first|refine ah ?_|refine aJ ?_|refine dA (by rfl) aG (by (try simp (disch:=omega) only [go_sem,ho,wE]);try rfl) ?_|refine gB (by rfl) aG (by (try simp (disch:=omega) only [go_sem,reduceIte,Nat.reduceEqDiff,Nat.reduceAdd,Nat.reduceMul,ho,wE]);try rfl) ?_)
    refine fD bW dm hx2 ⟨_,rfl,hd⟩ ?_
    rintro _ rfl -
    refine ⟨cO,_,_,_,_,_,gY,(by decide),bT,?_⟩
    repeat (first|refine ah ?_|refine aO ?_|refine af ?_|refine lh (by rfl) (by rfl) lw ?_|refine dZ ?_|refine au ?_|refine ae ?_)
    refine dF bW (by simp (disch:=omega) only [fQ,xM,y9,HV.thaw,eu,aV,aT,if_true,if_false,reduceIte,Nat.reduceEqDiff,stripL,HV.strip,jR,jA,Nat.mul_one,List.cons_append,List.nil_append,List.append_nil,I,Bl,T3,List.getD_cons_zero,List.getD_cons_succ,HL.ints_strip,HL.bools_strip,jM];try rfl) (hsw) ?_
    rintro _ rfl
    refine ⟨cO,_,_,_,_,_,gY,(by decide),bT,?_⟩
    repeat (first|refine ah ?_|refine aO ?_|refine af ?_|refine aN ?_|refine bf ?_|refine ax ?_|refine ae ?_|refine dH ?_|refine aH ?_|refine gI (by rfl) ?_)
    exact bZ [12,13,14,15,16,17,18] (k+1) hkl (by omega) rfl
  ·obtain rfl:k=3:=by omega
   repeat (first|refine ah ?_|refine af ?_|refine ay ?_|refine bf ?_|refine bD (by rfl) ?_|refine ax ?_|refine au ?_|refine ae ?_|refine dH ?_)
   exact bZ [12,13,14,15,16,17] (i+1) hil (by omega) rfl
 ·obtain rfl:i=3:=by omega
  have hz1:=yC fin al (List.replicate 1025 0) 1 (by omega) (by omega) (by rw [List.length_replicate];decide)
  have hz2:=uD fin al none 65 (by omega) (by omega) (by decide)
  have hb1:Ji fin al (List.replicate 1025 0) 1=.tup [.osl 1 0 [],.int .i64 1]:=by
   unfold Ji;rw [GH (fun h=>by have:=h.2.2.2;rw [List.length_replicate] at this;omega)];rfl
  have hb2:Ji fin al [] 65=.tup [.osl 1 0 [],.int .i64 1]:=by
   unfold Ji;rw [GH (fun h=>by have:=h.2.2.1;omega)];rfl
  rw [hb1] at hz1
  rw [show (none:Option (List Int)).getD []=[] from rfl,hb2] at hz2
  rw [List.length_replicate] at hz1
  simp only [fK,gX] at hz1 hz2
  simp only [wE] at hz2
  have hlv:=Es
  repeat (first|refine ah ?_|refine af ?_|refine ay ?_|refine bD (by rfl) ?_|refine ax ?_|refine au ?_|refine ae ?_)
  refine dG bu bu (fun _ _ r=>r=.tup [.osl 1 0 [],.int .i64 1]) ?_
  repeat (first|refine bz ?_|refine lH dN (by rfl) (by omega) aI aI ?_)
  have hZ:(List.replicate 1025 (0:Int)).length=1025:=List.length_replicate
  generalize List.replicate 1025 (0:Int)=Z at hz1 hZ ⊢
  refine fD bW dm hz1 ⟨_,rfl,rfl⟩ ?_
  rintro _ rfl -
  refine ⟨cO,_,_,_,_,_,gY,(by decide),bT,?_⟩
  repeat (first|refine ah ?_|refine af ?_|refine dZ ?_|refine au ?_|refine ae ?_|refine bz ?_)
  refine dF bW dm (hz2) ?_
  rintro _ rfl
  refine ⟨cO,_,_,_,_,_,gY,(by decide),bT,?_⟩
  repeat (first|refine ah ?_|refine aO ?_|refine af ?_|refine bC ?_|refine aK ?_|refine dZ ?_|refine au ?_|refine ae ?_)
  refine dF bW dm (hlv) ?_
  rintro _ rfl
  refine ⟨cO,_,_,_,_,_,gY,(by decide),bT,?_⟩
  repeat (first|refine ah ?_|refine af ?_|refine aK ?_)
  refine az ?_
  rfl
end Go.Proofs.Ytlbdmpjnmfmnfaa
