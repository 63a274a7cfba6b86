import Derived.Test.YtlbdmpjnmfmnfaaCodesFstComposition
import Derived.Test.YtlbdmpjnmfmnfaaFt8
import Derived.Test.YtlbdmpjnmfmnfaaFtY
import Derived.Test.YtlbdmpjnmfmnfaaFs5
set_option linter.unusedSimpArgs false
set_option linter.unusedVariables false
namespace Go.Proofs.Ytlbdmpjnmfmnfaa
open Go.RowKit Go.HL Go.FS
theorem IL (l:List Int):stripL (win (HL.ints l) 0 (l.length*1))=HL.ints l:=by rw [iJ _ (by simp [HL.ints]),HL.ints_strip]
theorem zg (l:List (List Int)):stripL (win (wds l) 0 (l.length*1))=wds l:=by rw [FN,GY]
theorem SA (l:List (List Int)):stripL (win (gr l) 0 (l.length*1))=gr l:=by rw [JC,CZ]
theorem Sm (fin:List Bool) (al:List A) (w:List Int) (m:Int):0<=(mY fin al w m).2/\(mY fin al w m).2<=4:=by
 rcases Fj fin al w m with h|⟨_,h|h⟩<;>rw [h]<;>decide
set_option maxHeartbeats 8000000 in
theorem sQ (l m w:List Int) (hl:l.length<=9223372036854775807) (hr:∀k,k<l.length -> -9223372036854775808<=l.getD k 0/\l.getD k 0<=9223372036854775807) (hm:m.length<=9223372036854775807) (hmr:∀k,k<m.length -> -9223372036854775808<=m.getD k 0/\m.getD k 0<=9223372036854775807) (hw:w.length<=9223372036854775807) (hwr:∀k,k<w.length -> -9223372036854775808<=w.getD k 0/\w.getD k 0<=9223372036854775807) :
  HT Try.prog 4 [I l,I m,I w] (fun r=>r=.bool true):=by
 refine HT.of rfl ZK (Nat.le_of_ble_eq_true rfl) ?_
 unfold c4
 simp only [I,aW,Nat.reduceAdd]
 repeat (first|refine ag ?_|refine af ?_|refine ah ?_|refine ae ?_)
 refine bZ bJ KH (FZ l hl hr) ?_
 rintro _ ⟨fin,al,rfl,hf1,hf2,hal,hok⟩
 simp only [gX,ji]
 refine ⟨bP,_,_,_,_,_,gV,(by decide),bH,?_⟩
 repeat (first|refine af ?_|refine dV ?_|refine bY dZ ?_)
 refine bM 48 [1,2,6,7] ⟨[(1,.sl m.length (HL.ints m)),(2,.sl w.length (HL.ints w)),(6,.bool false),(7,.ptr (stripL [.sl fin.length (HL.bools fin),.sl al.length (recs aC al)]) 0)],[],0⟩ rfl ?_
 rw [ng]
 refine ah ?_
 refine ae ?_
 repeat (first|refine ag ?_)
 refine bZ bJ KH (FZ m hm hmr) ?_
 rintro _ ⟨gin,bl,rfl,hg1,hg2,hbl,hok2⟩
 simp only [gX,ji]
 refine ⟨bP,_,_,_,_,_,gV,(by decide),bH,?_⟩
 repeat (first|refine af ?_|refine dV ?_|refine bY dZ ?_)
 refine bM 32 [2,6,7,8] ⟨[(2,.sl w.length (HL.ints w)),(6,.bool false),(7,.ptr [.sl fin.length (HL.bools fin),.sl al.length (recs aC al)] 0),(8,.ptr (stripL [.sl gin.length (HL.bools gin),.sl bl.length (recs aC bl)]) 0)],[],0⟩ rfl ?_
 rw [ng]
 have hnm:fin.length*gin.length<=25:=Nat.le_trans (Nat.mul_le_mul hf2 hg2) (by decide)
 have hcp:LY al bl fin.length gin.length<=171:=by
  have a1:=Nat.mul_le_mul hf2 hbl
  have a2:=Nat.mul_le_mul hg2 hal
  have a3:=Nat.mul_le_mul hal hbl
  unfold LY;omega
 obtain ⟨F,R,hcm,hokc,hFl,hRl,hout⟩:=Ic hok hok2 (by omega) (by omega)
 have hcc:=vM fin gin al bl (by omega) (by omega) (by omega) (by omega)
 rw [hcm] at hcc
 simp only [gX,ji,BF] at hcc
 clear hcm
 refine ah ?_
 refine ae ?_
 repeat (first|refine bI ?_)
 refine bZ bJ cZ (hcc) ?_
 rintro _ rfl
 refine ⟨bP,_,_,_,_,_,gV,(by decide),bH,?_⟩
 repeat (first|refine ag ?_|refine af ?_|refine iU (by rfl) aS aJ ?_|refine dV ?_|refine bY dZ ?_)
 refine bM 96 [2,6,7,8,9,10] ⟨[(2,.sl w.length (HL.ints w)),(6,.bool false),(7,.ptr [.sl fin.length (HL.bools fin),.sl al.length (recs aC al)] 0),(8,.ptr [.sl gin.length (HL.bools gin),.sl bl.length (recs aC bl)] 0),(9,.ptr (stripL [.osl 1 F.length (HL.bools F),.osl 4 R.length (recs aC R)]) 0),(10,.int .i64 0)],[],0⟩ rfl ?_
 rw [yT]
 repeat (first|refine ag ?_|refine af ?_|refine dN ?_|refine au ?_|refine ah ?_|refine ae ?_|refine aG ?_|refine aA ?_)
 refine cu [2,6,7,8,9,11] (fun n:Nat=>n<=6) (fun n=>⟨[(2,.sl w.length (HL.ints w)),(6,.bool false),(7,.ptr [.sl fin.length (HL.bools fin),.sl al.length (recs aC al)] 0),(8,.ptr [.sl gin.length (HL.bools gin),.sl bl.length (recs aC bl)] 0),(9,.ptr [.sl F.length (HL.bools F),.sl R.length (recs aC R)] 0),(11,.int .i64 n)],[],0⟩) (fun n=>6 - n) 0 (by omega) rfl ?_
 intro n hn
 by_cases hn6:n<6
 ·refine ah ?_
  refine ah ?_
  refine ae ?_
  repeat (first|refine ag ?_|refine af ?_|refine EY (by rfl) (by rfl) kF ?_)
  refine ak ?_
  refine aA ?_
  refine ah ?_
  refine aG ?_
  refine ah ?_
  refine ae ?_
  repeat (first|refine ag ?_)
  refine bZ bJ KH (JW w n hw (by omega) hwr) ?_
  rintro _ ⟨x,rfl,hxl⟩
  refine ⟨bP,_,_,_,_,_,gV,(by decide),bH,?_⟩
  repeat (first|refine ag ?_|refine af ?_)
  refine bM 64 [2,6,7,8,9,11,12] ⟨[(2,.sl w.length (HL.ints w)),(6,.bool false),(7,.ptr [.sl fin.length (HL.bools fin),.sl al.length (recs aC al)] 0),(8,.ptr [.sl gin.length (HL.bools gin),.sl bl.length (recs aC bl)] 0),(9,.ptr [.sl F.length (HL.bools F),.sl R.length (recs aC R)] 0),(11,.int .i64 n),(12,.sl x.length (stripL (win (HL.ints x) 0 (x.length*1))))],[],0⟩ rfl ?_
  rw [IL]
  have a1:=uz fin al x 20 (by omega) (by omega) (by omega)
  have a2:=uz F R x 64 (by omega) (by omega) (by omega)
  have hfl:=uV fin al x 20
  have hgl:=uV F R x 64
  have hf0:=Sm fin al x 20
  have hg0:=Sm F R x 64
  have hlaw:=fun all known=>Jn (all:=all) (known:=known) (w:=x) hokc (by omega) hout
  simp only [gX,ji,YG] at a1 a2
  generalize mY fin al x 20=f at a1 hfl hlaw hf0
  generalize mY F R x 64=g at a2 hgl hlaw hg0
  refine ah ?_
  refine ae ?_
  repeat (first|refine ag ?_|refine bI ?_)
  refine bZ bJ cZ (a1) ?_
  rintro _ rfl
  refine ⟨bP,_,_,_,_,_,gV,(by decide),bH,?_⟩
  repeat (first|refine ag ?_|refine af ?_|refine iU (by rfl) aS aJ ?_)
  refine bM 32 [2,6,7,8,9,11,12,13,14] ⟨[(2,.sl w.length (HL.ints w)),(6,.bool false),(7,.ptr [.sl fin.length (HL.bools fin),.sl al.length (recs aC al)] 0),(8,.ptr [.sl gin.length (HL.bools gin),.sl bl.length (recs aC bl)] 0),(9,.ptr [.sl F.length (HL.bools F),.sl R.length (recs aC R)] 0),(11,.int .i64 n),(12,.sl x.length (HL.ints x)),(13,.sl f.1.length (stripL (win (wds f.1) 0 (f.1.length*1)))),(14,.int .i64 f.2)],[],0⟩ rfl ?_
  rw [zg]
  refine wL 13 f.1 rfl ?_
  refine ah ?_
  refine ae ?_
  repeat (first|refine ag ?_|refine bI ?_)
  refine bZ bJ cZ (a2) ?_
  rintro _ rfl
  refine ⟨bP,_,_,_,_,_,gV,(by decide),bH,?_⟩
  repeat (first|refine ag ?_|refine af ?_|refine iU (by rfl) aS aJ ?_)
  refine bM 32 [2,6,7,8,9,11,13,14,15,16] ⟨[(2,.sl w.length (HL.ints w)),(6,.bool false),(7,.ptr [.sl fin.length (HL.bools fin),.sl al.length (recs aC al)] 0),(8,.ptr [.sl gin.length (HL.bools gin),.sl bl.length (recs aC bl)] 0),(9,.ptr [.sl F.length (HL.bools F),.sl R.length (recs aC R)] 0),(11,.int .i64 n),(13,.sl f.1.length (gr f.1)),(14,.int .i64 f.2),(15,.sl g.1.length (stripL (win (wds g.1) 0 (g.1.length*1)))),(16,.int .i64 g.2)],[],0⟩ rfl ?_
  rw [zg]
  refine wL 15 g.1 rfl ?_
  by_cases he:f.2=0
  ·refine ah ?_
   refine ah ?_
   refine ae ?_
   repeat (first|refine ag ?_|refine af ?_|refine dN ?_)
   refine au ?_
   refine aA ?_
   refine ah ?_
   refine ae ?_
   repeat (first|refine af ?_|refine bG ?_)
   refine bM 32 [2,6,7,8,9,11,13,15,16,17] ⟨[(2,.sl w.length (HL.ints w)),(6,.bool false),(7,.ptr [.sl fin.length (HL.bools fin),.sl al.length (recs aC al)] 0),(8,.ptr [.sl gin.length (HL.bools gin),.sl bl.length (recs aC bl)] 0),(9,.ptr [.sl F.length (HL.bools F),.sl R.length (recs aC R)] 0),(11,.int .i64 n),(13,.sl f.1.length (gr f.1)),(15,.sl g.1.length (gr g.1)),(16,.int .i64 g.2),(17,.sl 0 [])],[],0⟩ rfl ?_
   repeat (first|refine ag ?_|refine af ?_|refine ah ?_|refine ae ?_|refine aG ?_)
   refine cu [2,6,7,8,9,11,13,15,16,17,18,19] (fun s:Nat×Bool×List (List Int)=>s.1<=f.1.length/\CA gin bl f.1 s.1 s.2.1 s.2.2/\s.2.2.length<=s.1*64) (fun s=>⟨[(2,.sl w.length (HL.ints w)),(6,.bool false),(7,.ptr [.sl fin.length (HL.bools fin),.sl al.length (recs aC al)] 0),(8,.ptr [.sl gin.length (HL.bools gin),.sl bl.length (recs aC bl)] 0),(9,.ptr [.sl F.length (HL.bools F),.sl R.length (recs aC R)] 0),(11,.int .i64 n),(13,.sl f.1.length (gr f.1)),(15,.sl g.1.length (gr g.1)),(16,.int .i64 g.2),(17,.sl s.2.2.length (gr s.2.2)),(18,.bool s.2.1),(19,.int .i64 s.1)],[],0⟩) (fun s=>f.1.length - s.1) (0,true,[]) ⟨by simp,.start,by simp⟩ rfl ?_
   rintro ⟨i,known,all⟩ ⟨hi,hA,hal2⟩
   simp only at hi hA hal2 ⊢
   by_cases hc:i<f.1.length
   ·have hum:f.1.getD i []∈f.1:=by rw [List.getD_eq_getElem?_getD,List.getElem?_eq_getElem hc];exact List.getElem_mem _
    have hus:=hfl.2 _ hum
    have a3:=uz gin bl (f.1.getD i []) 20 (by omega) (by omega) (by omega)
    have htl:=uV gin bl (f.1.getD i []) 20
    have ht0:=Sm gin bl (f.1.getD i []) 20
    have hnx:=hA.step
    simp only [gX,ji,YG] at a3
    generalize mY gin bl (f.1.getD i []) 20=t at a3 htl hnx ht0
    refine ah ?_
    refine ah ?_
    refine ae ?_
    repeat (first|refine ag ?_|refine af ?_|refine az ?_|refine aP ?_)
    refine ak ?_
    refine aA ?_
    refine ah ?_
    refine aG ?_
    refine ah ?_
    refine fB bK bK (fun _ _ r=>r=.tup [.osl 1 t.1.length (wds t.1),.int .i64 t.2]) ?_
    repeat (first|refine ag ?_|refine aT ?_|refine bU ?_|refine bI ?_)
    refine iy bJ cZ a3 ⟨_,rfl,by simp [HV.deep,bn,Jp]⟩ ?_
    rintro _ rfl -
    refine ⟨bP,_,_,_,_,_,gV,(by decide),bH,?_⟩
    repeat (first|refine ag ?_|refine af ?_|refine iU (by rfl) aS aJ ?_)
    refine bM 144 [2,6,7,8,9,11,13,15,16,17,18,19,20,21] ⟨[(2,.sl w.length (HL.ints w)),(6,.bool false),(7,.ptr [.sl fin.length (HL.bools fin),.sl al.length (recs aC al)] 0),(8,.ptr [.sl gin.length (HL.bools gin),.sl bl.length (recs aC bl)] 0),(9,.ptr [.sl F.length (HL.bools F),.sl R.length (recs aC R)] 0),(11,.int .i64 n),(13,.sl f.1.length (gr f.1)),(15,.sl g.1.length (gr g.1)),(16,.int .i64 g.2),(17,.sl all.length (gr all)),(18,.bool known),(19,.int .i64 i),(20,.sl t.1.length (stripL (win (wds t.1) 0 (t.1.length*1)))),(21,.int .i64 t.2)],[],0⟩ rfl ?_
    rw [zg]
    refine wL 20 t.1 rfl ?_
    apply FV (P:=Try.prog) (fun _:Unit=>(⟨[(2,.sl w.length (HL.ints w)),(6,.bool false),(7,.ptr [.sl fin.length (HL.bools fin),.sl al.length (recs aC al)] 0),(8,.ptr [.sl gin.length (HL.bools gin),.sl bl.length (recs aC bl)] 0),(9,.ptr [.sl F.length (HL.bools F),.sl R.length (recs aC R)] 0),(11,.int .i64 n),(13,.sl f.1.length (gr f.1)),(15,.sl g.1.length (gr g.1)),(16,.int .i64 g.2),(17,.sl all.length (gr all)),(18,.bool (known&&decide (t.2=0))),(19,.int .i64 i),(20,.sl t.1.length (gr t.1))],[],0⟩:St)) (fun _=>True)
    ·intro key
     cases known with
     | true =>
      by_cases ht0:t.2=0
      ·rw [decide_eq_true ht0] at key
       refine ah ?_
       refine ae ?_
       repeat (first|refine ag ?_|refine aQ ?_|refine af ?_|refine dH ?_|refine aO ?_)
       exact gp [2,6,7,8,9,11,13,15,16,17,18,19,20] _ rfl (key () trivial)
      ·rw [decide_eq_false ht0] at key
       refine ah ?_
       refine ae ?_
       repeat (first|refine ag ?_|refine aQ ?_|refine af ?_|refine dH ?_|refine aO ?_)
       exact gp [2,6,7,8,9,11,13,15,16,17,18,19,20] _ rfl (key () trivial)
     | false =>
      refine ah ?_
      refine ae ?_
      repeat (first|refine ag ?_|refine dm ?_|refine af ?_|refine aK ?_)
      exact gp [2,6,7,8,9,11,13,15,16,17,18,19,20] _ rfl (key () trivial)
    rintro - -
    repeat (first|refine ag ?_|refine af ?_|refine ah ?_|refine ae ?_|refine aG ?_)
    refine cu [2,6,7,8,9,11,13,15,16,17,18,19,20,22] (fun k:Nat=>k<=t.1.length) (fun k=>⟨[(2,.sl w.length (HL.ints w)),(6,.bool false),(7,.ptr [.sl fin.length (HL.bools fin),.sl al.length (recs aC al)] 0),(8,.ptr [.sl gin.length (HL.bools gin),.sl bl.length (recs aC bl)] 0),(9,.ptr [.sl F.length (HL.bools F),.sl R.length (recs aC R)] 0),(11,.int .i64 n),(13,.sl f.1.length (gr f.1)),(15,.sl g.1.length (gr g.1)),(16,.int .i64 g.2),(17,.sl (insL (t.1.take k) all).length (gr (insL (t.1.take k) all))),(18,.bool (known&&decide (t.2=0))),(19,.int .i64 i),(20,.sl t.1.length (gr t.1)),(22,.int .i64 k)],[],0⟩) (fun k=>t.1.length - k) 0 (by omega) rfl ?_
    intro k hk
    have hil:=Dj (x:=t.1.take k) (all:=all)
    rw [List.length_take] at hil
    by_cases hkl:k<t.1.length
    ·have hst:=Hu (all:=all) hkl
     have hsh:∀u∈insL (t.1.take k) all,u.length<=1000000000:=fun u hu=>by
      rcases mem_insL.1 hu with hu|hu
      ·exact Nat.le_trans (hA.sht u hu) (by decide)
      ·exact Nat.le_trans (htl.2 u (List.mem_of_mem_take hu)) (by decide)
     have hmm:t.1.getD k []∈t.1:=by rw [List.getD_eq_getElem?_getD,List.getElem?_eq_getElem hkl];exact List.getElem_mem _
     have hins:=NL (insL (t.1.take k) all) (t.1.getD k []) (by omega) hsh (Nat.le_trans (htl.2 _ hmm) (by decide))
     rw [<- hst] at hins
     refine ah ?_
     refine ah ?_
     refine ae ?_
     repeat (first|refine ag ?_|refine af ?_|refine az ?_|refine aP ?_)
     refine ak ?_
     refine aA ?_
     refine ah ?_
     refine aG ?_
     refine ae ?_
     repeat (first|refine ag ?_|refine aT ?_|refine bU ?_)
     refine bZ bJ cZ (hins) ?_
     rintro _ rfl
     refine ⟨bP,_,_,_,_,_,gV,(by decide),bH,?_⟩
     repeat (first|refine ag ?_|refine af ?_|refine fJ ?_)
     refine bM 144 [2,6,7,8,9,11,13,15,16,17,18,19,20,22] ⟨[(2,.sl w.length (HL.ints w)),(6,.bool false),(7,.ptr [.sl fin.length (HL.bools fin),.sl al.length (recs aC al)] 0),(8,.ptr [.sl gin.length (HL.bools gin),.sl bl.length (recs aC bl)] 0),(9,.ptr [.sl F.length (HL.bools F),.sl R.length (recs aC R)] 0),(11,.int .i64 n),(13,.sl f.1.length (gr f.1)),(15,.sl g.1.length (gr g.1)),(16,.int .i64 g.2),(17,.sl (insL (t.1.take (k+1)) all).length (stripL (win (gr (insL (t.1.take (k+1)) all)) 0 ((insL (t.1.take (k+1)) all).length*1)))),(18,.bool (known&&decide (t.2=0))),(19,.int .i64 i),(20,.sl t.1.length (gr t.1)),(22,.int .i64 k)],[],0⟩ rfl ?_
     rw [SA]
     repeat (first|refine ag ?_|refine af ?_|refine bz ?_|refine ae ?_)
     exact dC [2,6,7,8,9,11,13,15,16,17,18,19,20,22] (k+1) hkl (by omega) rfl
    ·obtain rfl:k=t.1.length:=by omega
     rw [List.take_length]
     repeat (first|refine ag ?_|refine af ?_|refine az ?_|refine bz ?_|refine aP ?_|refine bF (by rfl) ?_|refine au ?_|refine ah ?_|refine ae ?_|refine fJ ?_)
     exact dC [2,6,7,8,9,11,13,15,16,17,18,19] (i+1,known&&decide (t.2=0),insL t.1 all) ⟨hc,hnx,by simp only;have:=Dj (x:=t.1) (all:=all);omega⟩ iC rfl
   ·obtain rfl:i=f.1.length:=by omega
    cases known with
    | true =>
     have hlw:=hlaw all true he hA rfl
     have hgsh:∀u∈all,u.length<=1000000000:=fun u hu=>Nat.le_trans (hA.sht u hu) (by decide)
     by_cases h64:all.length<=64
     ·have hge:=hlw.1 h64
      have hsw:=yN all all (by omega) (by omega) hgsh hgsh
      rw [decide_eq_true rfl] at hsw
      have hg1:g.1=all:=by rw [hge]
      have hg2:g.2=0:=by rw [hge]
      rw [hg1]
      repeat (first|refine ag ?_|refine aQ ?_|refine af ?_|refine az ?_|refine dN ?_|refine aO ?_|refine aP ?_|refine bF (by rfl) ?_|refine au ?_|refine ah ?_|refine ae ?_|refine EY (by rfl) (by rfl) kF ?_)
      refine bZ bJ cZ (hsw) ?_
      rintro _ rfl
      refine ⟨bP,_,_,_,_,_,gV,(by decide),bH,?_⟩
      repeat (first|refine ag ?_|refine aQ ?_|refine dm ?_|refine af ?_|refine aO ?_|refine aK ?_|refine bz ?_|refine aP ?_|refine au ?_|refine ah ?_|refine ae ?_|refine fJ ?_|refine aA ?_|refine bW ?_|refine ja (by rfl) ?_)
      exact dC [2,6,7,8,9,11] (n+1) (by omega) (by omega) rfl
     ·have hge:=hlw.2 (by omega)
      repeat (first|refine ag ?_|refine aQ ?_|refine dm ?_|refine af ?_|refine az ?_|refine dN ?_|refine aO ?_|refine aK ?_|refine bz ?_|refine aP ?_|refine bF (by rfl) ?_|refine au ?_|refine ah ?_|refine ae ?_|refine fJ ?_|refine aA ?_|refine vH (by rfl) (by rfl) ?_|refine EY (by rfl) (by rfl) kF ?_|refine bW ?_)
      exact dC [2,6,7,8,9,11] (n+1) (by omega) (by omega) rfl
    | false =>
     repeat (first|refine ag ?_|refine dm ?_|refine af ?_|refine az ?_|refine aK ?_|refine bz ?_|refine aP ?_|refine bF (by rfl) ?_|refine au ?_|refine ah ?_|refine ae ?_|refine fJ ?_|refine aA ?_|refine vH (by rfl) (by rfl) ?_)
     exact dC [2,6,7,8,9,11] (n+1) (by omega) (by omega) rfl
  ·repeat (first|refine ag ?_|refine af ?_|refine dN ?_|refine bz ?_|refine bF (by rfl) ?_|refine ak ?_|refine ah ?_|refine ae ?_)
   exact dC [2,6,7,8,9,11] (n+1) (by omega) (by omega) rfl
 ·obtain rfl:n=6:=by omega
  have hlv:=Dz
  repeat (first|refine ag ?_|refine af ?_|refine bF (by rfl) ?_|refine au ?_|refine ah ?_|refine ae ?_|refine EY (by rfl) (by rfl) kF ?_)
  refine bZ bJ cZ (hlv) ?_
  rintro _ rfl
  refine ⟨bP,_,_,_,_,_,gV,(by decide),bH,?_⟩
  repeat (first|refine ag ?_|refine af ?_)
  refine ax ?_
  rfl
end Go.Proofs.Ytlbdmpjnmfmnfaa
