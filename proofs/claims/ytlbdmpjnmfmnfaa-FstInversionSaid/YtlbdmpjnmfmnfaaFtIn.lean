import Derived.Test.YtlbdmpjnmfmnfaaCodesFstInversion
import Derived.Test.YtlbdmpjnmfmnfaaFt8
import Derived.Test.YtlbdmpjnmfmnfaaFtY
import Derived.Test.YtlbdmpjnmfmnfaaFs5
set_option linter.unusedSimpArgs false
set_option linter.unusedVariables false
namespace Go.Proofs.Ytlbdmpjnmfmnfaa
open Go.RowKit Go.HL Go.FS
theorem Bj (l:List Int):stripL (win (HL.ints l) 0 (l.length*1))=HL.ints l:=by rw [jd _ (by simp [HL.ints]),HL.ints_strip]
theorem Ro (fin:List Bool) (al:List A) (w:List Int) (m:Int):0<=(og fin al w m).2/\(og fin al w m).2<=4:=by
 rcases yF fin al w m with h|⟨_,h|h⟩<;>rw [h]<;>decide
set_option maxHeartbeats 8000000 in
theorem uH (l w v:List Int) (hl:l.length<=9223372036854775807) (hr:∀k,k<l.length -> -9223372036854775808<=l.getD k 0/\l.getD k 0<=9223372036854775807) (hw:w.length<=9223372036854775807) (hwr:∀k,k<w.length -> -9223372036854775808<=w.getD k 0/\w.getD k 0<=9223372036854775807) (hv:v.length<=9223372036854775807) (hvr:∀k,k<v.length -> -9223372036854775808<=v.getD k 0/\v.getD k 0<=9223372036854775807) :
  HT Try.prog 5 [I l,I w,I v] (fun r=>r=.bool true):=by
 refine HT.of rfl Yi (Nat.le_of_ble_eq_true rfl) ?_
 unfold c5
 simp only [I,aS,Nat.reduceAdd]
 repeat (first|refine ag ?_|refine af ?_|refine ah ?_|refine ae ?_)
 refine bI bD J7 (KL l hl hr) ?_
 rintro _ ⟨fin,al,rfl,hf1,hf2,hal,hok⟩
 have hin:=tV fin al (by omega) (by omega)
 have e1:Ac fin al=(fin,al.map inv):=if_pos hok
 rw [e1] at hin
 have hin2:=tV fin (al.map inv) (by omega) (by rw [List.length_map];omega)
 have e2:Ac fin (al.map inv)=(fin,al):=by
  have:Ac fin (al.map inv)=(fin,(al.map inv).map inv):=if_pos (AB hok)
  rw [this,Ei]
 rw [e2] at hin2
 have hml:(al.map inv).length<=9:=by rw [List.length_map];exact hal
 obtain ⟨bl,hbl⟩:∃bl,al.map inv=bl:=⟨_,rfl⟩
 rw [hbl] at hin hin2 hml
 simp only [gQ,jC] at hin hin2 ⊢
 refine ⟨bF,_,_,_,_,_,gq,(by decide),bC,?_⟩
 repeat (first|refine af ?_|refine dZ ?_|refine bP dI ?_)
 refine bT 48 [1,2,6,7] ⟨[(1,.sl w.length (HL.ints w)),(2,.sl v.length (HL.ints v)),(6,.bool false),(7,.ptr (stripL [.sl fin.length (HL.bools fin),.sl al.length (recs aC al)]) 0)],[],0⟩ rfl ?_
 rw [nK]
 refine ah ?_
 refine ae ?_
 repeat (first|refine bG ?_)
 refine bI bD cO (hin) ?_
 rintro _ rfl
 refine ⟨bF,_,_,_,_,_,gq,(by decide),bC,?_⟩
 repeat (first|refine af ?_|refine dZ ?_|refine bP dI ?_)
 refine bT 32 [1,2,6,7,8] ⟨[(1,.sl w.length (HL.ints w)),(2,.sl v.length (HL.ints v)),(6,.bool false),(7,.ptr [.sl fin.length (HL.bools fin),.sl al.length (recs aC al)] 0),(8,.ptr (stripL [.sl fin.length (HL.bools fin),.sl bl.length (recs aC bl)]) 0)],[],0⟩ rfl ?_
 rw [nK]
 repeat (first|refine ag ?_|refine af ?_|refine ah ?_|refine ae ?_|refine aH ?_)
 refine cu [1,2,6,7,8,9] (fun n:Nat=>n<=5) (fun n=>⟨[(1,.sl w.length (HL.ints w)),(2,.sl v.length (HL.ints v)),(6,.bool false),(7,.ptr [.sl fin.length (HL.bools fin),.sl al.length (recs aC al)] 0),(8,.ptr [.sl fin.length (HL.bools fin),.sl bl.length (recs aC bl)] 0),(9,.int .i64 n)],[],0⟩) (fun n=>5 - n) 0 (by omega) rfl ?_
 intro n hn
 by_cases hn5:n<5
 ·refine ah ?_
  refine ah ?_
  refine ae ?_
  repeat (first|refine ag ?_|refine af ?_|refine NF (by rfl) (by rfl) lw ?_)
  refine au ?_
  refine aF ?_
  refine ah ?_
  refine aH ?_
  refine ah ?_
  refine ae ?_
  repeat (first|refine ag ?_)
  refine bI bD J7 (Au w n hw (by omega) hwr) ?_
  rintro _ ⟨x,rfl,hxl⟩
  refine ⟨bF,_,_,_,_,_,gq,(by decide),bC,?_⟩
  repeat (first|refine ag ?_|refine af ?_)
  refine bT 64 [1,2,6,7,8,9,10] ⟨[(1,.sl w.length (HL.ints w)),(2,.sl v.length (HL.ints v)),(6,.bool false),(7,.ptr [.sl fin.length (HL.bools fin),.sl al.length (recs aC al)] 0),(8,.ptr [.sl fin.length (HL.bools fin),.sl bl.length (recs aC bl)] 0),(9,.int .i64 n),(10,.sl x.length (stripL (win (HL.ints x) 0 (x.length*1))))],[],0⟩ rfl ?_
  rw [Bj]
  refine ah ?_
  refine ae ?_
  repeat (first|refine ag ?_)
  refine bI bD J7 (Au v n hv (by omega) hvr) ?_
  rintro _ ⟨y,rfl,hy⟩
  refine ⟨bF,_,_,_,_,_,gq,(by decide),bC,?_⟩
  repeat (first|refine ag ?_|refine af ?_)
  refine bT 32 [1,2,6,7,8,9,10,11] ⟨[(1,.sl w.length (HL.ints w)),(2,.sl v.length (HL.ints v)),(6,.bool false),(7,.ptr [.sl fin.length (HL.bools fin),.sl al.length (recs aC al)] 0),(8,.ptr [.sl fin.length (HL.bools fin),.sl bl.length (recs aC bl)] 0),(9,.int .i64 n),(10,.sl x.length (HL.ints x)),(11,.sl y.length (stripL (win (HL.ints y) 0 (y.length*1))))],[],0⟩ rfl ?_
  rw [Bj]
  have a1:=tH fin al x 32 (by omega) (by omega) (by omega)
  have a2:=tH fin bl y 64 (by omega) (by omega) (by omega)
  have hq0:=Ro fin al x 32
  have hp0:=Ro fin bl y 64
  have hql:=zq fin al x 32
  have hpl:=zq fin bl y 64
  have hfx:fin.length*(x.length+1)<=1024:=Nat.le_trans (Nat.mul_le_mul hf2 (show x.length+1<=5 by omega)) (by decide)
  have hth:=fun v=>GN (v:=v) (m:=32) hok hfx
  have hbo:=JY (fin:=fin) (al:=al) (x:=x) (y:=y) (m:=32) (k:=64)
  have hsh:=fun (h:(og fin al x 32).2=0)=>EI hok (zl h).2
  have her:=yF fin al x 32
  rw [hbl] at hth hbo
  simp only [gQ,jC,UK] at a1 a2
  generalize og fin al x 32=q at a1 hq0 hql hth hbo hsh her
  generalize og fin bl y 64=p at a2 hp0 hpl hbo
  have hsw:=mV q.1 q.1 (by omega) (by omega) (fun u hu=>Nat.le_trans (hql.2 u hu) (by decide)) (fun u hu=>Nat.le_trans (hql.2 u hu) (by decide))
  rw [decide_eq_true rfl] at hsw
  have hh1:=DR q.1 y (by omega) (fun u hu=>Nat.le_trans (hql.2 u hu) (by decide)) (by omega)
  have hh2:=DR p.1 x (by omega) (fun u hu=>Nat.le_trans (hpl.2 u hu) (by decide)) (by omega)
  have hbb:(!(decide (x∈p.1)==decide (x∈p.1)))=false:=by cases decide (x∈p.1)<;>rfl
  repeat (first|refine ag ?_|refine ah ?_|refine ae ?_|refine bG ?_)
  refine bI bD cO (a1) ?_
  rintro _ rfl
  refine ⟨bF,_,_,_,_,_,gq,(by decide),bC,?_⟩
  repeat (first|refine ag ?_|refine af ?_|refine dh ?_)
  refine bT 32 [1,2,6,7,8,9,10,11,12,13] ⟨[(1,.sl w.length (HL.ints w)),(2,.sl v.length (HL.ints v)),(6,.bool false),(7,.ptr [.sl fin.length (HL.bools fin),.sl al.length (recs aC al)] 0),(8,.ptr [.sl fin.length (HL.bools fin),.sl bl.length (recs aC bl)] 0),(9,.int .i64 n),(10,.sl x.length (HL.ints x)),(11,.sl y.length (HL.ints y)),(12,.sl q.1.length (stripL (win (wds q.1) 0 (q.1.length*1)))),(13,.int .i64 q.2)],[],0⟩ rfl ?_
  rw [kS,jr]
  refine ah ?_
  refine ae ?_
  repeat (first|refine bG ?_)
  refine bI bD cO (hin2) ?_
  rintro _ rfl
  refine ⟨bF,_,_,_,_,_,gq,(by decide),bC,?_⟩
  repeat (first|refine ag ?_)
  refine bI bD cO (a1) ?_
  rintro _ rfl
  refine ⟨bF,_,_,_,_,_,gq,(by decide),bC,?_⟩
  repeat (first|refine ag ?_|refine aK ?_|refine af ?_|refine ji (by rfl) (by rfl) jm ?_|refine dh ?_|refine ah ?_|refine ae ?_)
  refine bI bD (by simp (disch:=omega) only [dO,kS,kF,jr,HV.thaw,dD,aG,aA,if_true,if_false,reduceIte,Nat.reduceEqDiff,stripL,HV.strip,gU,fZ,Nat.mul_one,List.cons_append,List.nil_append,List.append_nil,I,Bl,T3,List.getD_cons_zero,List.getD_cons_succ,HL.ints_strip,HL.bools_strip,gG];try rfl) (hsw) ?_
  rintro _ rfl
  refine ⟨bF,_,_,_,_,_,gq,(by decide),bC,?_⟩
  repeat (first|refine ag ?_|refine aK ?_|refine af ?_|refine aI ?_|refine ak ?_|refine ah ?_|refine ae ?_|refine aH ?_|refine aF ?_|refine iY (by rfl) ?_)
  refine cu [1,2,6,7,8,9,10,11,12,13,16] (fun i:Nat=>i<=q.1.length/\i<=6) (fun i=>⟨[(1,.sl w.length (HL.ints w)),(2,.sl v.length (HL.ints v)),(6,.bool false),(7,.ptr [.sl fin.length (HL.bools fin),.sl al.length (recs aC al)] 0),(8,.ptr [.sl fin.length (HL.bools fin),.sl bl.length (recs aC bl)] 0),(9,.int .i64 n),(10,.sl x.length (HL.ints x)),(11,.sl y.length (HL.ints y)),(12,.sl q.1.length (wds q.1)),(13,.int .i64 q.2),(16,.int .i64 i)],[],0⟩) (fun i=>6 - i) 0 ⟨by omega,by omega⟩ rfl ?_
  rintro i ⟨hi1,hi2⟩
  by_cases hc:i<q.1.length
  ·by_cases hc2:i<6
   ·have he0:q.2=0:=by
     rcases her with h|⟨h,_⟩
     ·exact h
     ·rw [h] at hc;simp at hc
    have hum:q.1.getD i []∈q.1:=by rw [List.getD_eq_getElem?_getD,List.getElem?_eq_getElem hc];exact List.getElem_mem _
    have hus:=Nat.le_trans (hsh he0 _ hum) hfx
    have hth:=hth _ he0 hum
    have a3:=GZ fin bl (q.1.getD i []) 64 (by omega) (by omega) (by omega)
    have htl:=zq fin bl (q.1.getD i []) 64
    simp only [gQ,jC,UK] at a3
    generalize og fin bl (q.1.getD i []) 64=t at a3 htl hth
    have hhs:=DR t.1 x (by omega) (fun u hu=>Nat.le_trans (htl.2 u hu) (by decide)) (by omega)
    obtain ⟨u,hue⟩:∃u,q.1.getD i []=u:=⟨_,rfl⟩
    by_cases hu:u=[]
    ·have hwu:wR (q.1.getD i [])=.nils:=by rw [hue,hu];rfl
     rw [hwu] at a3
     repeat (first|refine ag ?_|refine aK ?_|refine af ?_|refine az ?_|refine aN ?_|refine bY (by rfl) ?_|refine au ?_|refine ah ?_|refine ae ?_|refine aH ?_|refine aF ?_)
     refine fM bM bM (fun _ _ r=>r=.tup [.osl 1 t.1.length (wds t.1),.int .i64 t.2]) ?_
     repeat (first|refine ag ?_|refine aZ ?_|refine iL (by rfl) aT (by (try simp (disch:=omega) only [go_sem,hwu]);try rfl) ?_|refine pG (by rfl) aT (by (try simp (disch:=omega) only [go_sem,reduceIte,Nat.reduceEqDiff,Nat.reduceAdd,Nat.reduceMul,hwu]);try rfl) ?_)
     refine gZ bD cO a3 ⟨_,rfl,by simp [HV.deep,bf,AY]⟩ ?_
     rintro _ rfl -
     refine ⟨bF,_,_,_,_,_,gq,(by decide),bC,?_⟩
     rcases hth with ⟨z0,z1⟩|z4
     ·rw [decide_eq_true z1] at hhs
      repeat (first|refine ag ?_|refine aK ?_|refine af ?_|refine bQ ?_|refine dh ?_|refine ah ?_|refine ae ?_)
      refine bI bD (by simp (disch:=omega) only [dO,kS,kF,jr,HV.thaw,dD,aG,aA,if_true,if_false,reduceIte,Nat.reduceEqDiff,stripL,HV.strip,gU,fZ,Nat.mul_one,List.cons_append,List.nil_append,List.append_nil,I,Bl,T3,List.getD_cons_zero,List.getD_cons_succ,HL.ints_strip,HL.bools_strip,gG];try rfl) (hhs) ?_
      rintro _ rfl
      refine ⟨bF,_,_,_,_,_,gq,(by decide),bC,?_⟩
      repeat (first|refine ag ?_|refine aK ?_|refine bV ?_|refine af ?_|refine ji (by rfl) (by rfl) jm ?_|refine aN ?_|refine aI ?_|refine bu ?_|refine ak ?_|refine ae ?_|refine fE ?_|refine aF ?_|refine iY (by rfl) ?_)
      exact dm [1,2,6,7,8,9,10,11,12,13,16] (i+1) ⟨by omega,by omega⟩ (by omega) rfl
     ·repeat (first|refine ag ?_|refine aK ?_|refine bV ?_|refine af ?_|refine ji (by rfl) (by rfl) jm ?_|refine bQ ?_|refine aN ?_|refine aI ?_|refine bu ?_|refine dh ?_|refine ak ?_|refine ah ?_|refine ae ?_|refine fE ?_|refine aF ?_)
      exact dm [1,2,6,7,8,9,10,11,12,13,16] (i+1) ⟨by omega,by omega⟩ (by omega) rfl
    ·have hwu:wR (q.1.getD i [])=.sl u.length (HL.ints u):=by rw [hue];unfold wR;rw [if_neg hu]
     rw [hwu] at a3
     repeat (first|refine ag ?_|refine aK ?_|refine af ?_|refine az ?_|refine aN ?_|refine bY (by rfl) ?_|refine au ?_|refine ah ?_|refine ae ?_|refine aH ?_|refine aF ?_)
     refine fM bM bM (fun _ _ r=>r=.tup [.osl 1 t.1.length (wds t.1),.int .i64 t.2]) ?_
     repeat (first|refine ag ?_|refine aZ ?_|refine iL (by rfl) aT (by (try simp (disch:=omega) only [go_sem,hwu]);try rfl) ?_|refine pG (by rfl) aT (by (try simp (disch:=omega) only [go_sem,reduceIte,Nat.reduceEqDiff,Nat.reduceAdd,Nat.reduceMul,hwu]);try rfl) ?_)
     refine gZ bD cO a3 ⟨_,rfl,by simp [HV.deep,bf,AY]⟩ ?_
     rintro _ rfl -
     refine ⟨bF,_,_,_,_,_,gq,(by decide),bC,?_⟩
     rcases hth with ⟨z0,z1⟩|z4
     ·rw [decide_eq_true z1] at hhs
      repeat (first|refine ag ?_|refine aK ?_|refine af ?_|refine bQ ?_|refine dh ?_|refine ah ?_|refine ae ?_)
      refine bI bD (by simp (disch:=omega) only [dO,kS,kF,jr,HV.thaw,dD,aG,aA,if_true,if_false,reduceIte,Nat.reduceEqDiff,stripL,HV.strip,gU,fZ,Nat.mul_one,List.cons_append,List.nil_append,List.append_nil,I,Bl,T3,List.getD_cons_zero,List.getD_cons_succ,HL.ints_strip,HL.bools_strip,gG];try rfl) (hhs) ?_
      rintro _ rfl
      refine ⟨bF,_,_,_,_,_,gq,(by decide),bC,?_⟩
      repeat (first|refine ag ?_|refine aK ?_|refine bV ?_|refine af ?_|refine ji (by rfl) (by rfl) jm ?_|refine aN ?_|refine aI ?_|refine bu ?_|refine ak ?_|refine ae ?_|refine fE ?_|refine aF ?_|refine iY (by rfl) ?_)
      exact dm [1,2,6,7,8,9,10,11,12,13,16] (i+1) ⟨by omega,by omega⟩ (by omega) rfl
     ·repeat (first|refine ag ?_|refine aK ?_|refine bV ?_|refine af ?_|refine ji (by rfl) (by rfl) jm ?_|refine bQ ?_|refine aN ?_|refine aI ?_|refine bu ?_|refine dh ?_|refine ak ?_|refine ah ?_|refine ae ?_|refine fE ?_|refine aF ?_)
      exact dm [1,2,6,7,8,9,10,11,12,13,16] (i+1) ⟨by omega,by omega⟩ (by omega) rfl
   ·skip
    repeat (first|refine ag ?_|refine aK ?_|refine af ?_|refine az ?_|refine aN ?_|refine bY (by rfl) ?_|refine bK (by rfl) ?_|refine ak ?_|refine ah ?_|refine ae ?_|refine bG ?_)
    refine bI bD cO (a2) ?_
    rintro _ rfl
    refine ⟨bF,_,_,_,_,_,gq,(by decide),bC,?_⟩
    by_cases e1:q.2=0
    ·by_cases e2:p.2=0
     ·rw [hbo e1 e2] at hh1
      repeat (first|refine ag ?_|refine aK ?_|refine af ?_|refine bQ ?_|refine aN ?_|refine dh ?_|refine ah ?_|refine ae ?_)
      refine bI bD (by simp (disch:=omega) only [dO,kS,kF,jr,HV.thaw,dD,aG,aA,if_true,if_false,reduceIte,Nat.reduceEqDiff,stripL,HV.strip,gU,fZ,Nat.mul_one,List.cons_append,List.nil_append,List.append_nil,I,Bl,T3,List.getD_cons_zero,List.getD_cons_succ,HL.ints_strip,HL.bools_strip,gG];try rfl) (hh1) ?_
      rintro _ rfl
      refine ⟨bF,_,_,_,_,_,gq,(by decide),bC,?_⟩
      repeat (first|refine ag ?_|refine aK ?_)
      refine bI bD (by simp (disch:=omega) only [dO,kS,kF,jr,HV.thaw,dD,aG,aA,if_true,if_false,reduceIte,Nat.reduceEqDiff,stripL,HV.strip,gU,fZ,Nat.mul_one,List.cons_append,List.nil_append,List.append_nil,I,Bl,T3,List.getD_cons_zero,List.getD_cons_succ,HL.ints_strip,HL.bools_strip,gG];try rfl) (hh2) ?_
      rintro _ rfl
      refine ⟨bF,_,_,_,_,_,gq,(by decide),bC,?_⟩
      repeat (first|refine ag ?_|refine aK ?_|refine af ?_|refine aN ?_|refine jI (by rfl) (by rfl) (by (try simp (disch:=omega) only [go_sem,Int.reduceAdd,Int.reduceSub,Int.reduceMul,hbb]);try rfl) ?_|refine ak ?_|refine ae ?_|refine fE ?_|refine aF ?_|refine NQ (by rfl) (by rfl) (by (try simp only [go_sem,reduceIte,hbb]);try rfl) ?_)
      exact dm [1,2,6,7,8,9] (n+1) (by omega) (by omega) rfl
     ·repeat (first|refine ag ?_|refine aK ?_|refine bV ?_|refine af ?_|refine bQ ?_|refine aN ?_|refine aI ?_|refine bu ?_|refine dh ?_|refine ak ?_|refine ah ?_|refine ae ?_|refine fE ?_|refine aF ?_)
      exact dm [1,2,6,7,8,9] (n+1) (by omega) (by omega) rfl
    ·repeat (first|refine ag ?_|refine bV ?_|refine af ?_|refine bQ ?_|refine aI ?_|refine bu ?_|refine dh ?_|refine ak ?_|refine ah ?_|refine ae ?_|refine fE ?_|refine aF ?_)
     exact dm [1,2,6,7,8,9] (n+1) (by omega) (by omega) rfl
  ·skip
   repeat (first|refine ag ?_|refine bV ?_|refine af ?_|refine az ?_|refine aI ?_|refine bY (by rfl) ?_|refine bK (by rfl) ?_|refine ak ?_|refine ah ?_|refine ae ?_|refine bG ?_)
   refine bI bD cO (a2) ?_
   rintro _ rfl
   refine ⟨bF,_,_,_,_,_,gq,(by decide),bC,?_⟩
   by_cases e1:q.2=0
   ·by_cases e2:p.2=0
    ·rw [hbo e1 e2] at hh1
     repeat (first|refine ag ?_|refine aK ?_|refine af ?_|refine bQ ?_|refine aN ?_|refine dh ?_|refine ah ?_|refine ae ?_)
     refine bI bD (by simp (disch:=omega) only [dO,kS,kF,jr,HV.thaw,dD,aG,aA,if_true,if_false,reduceIte,Nat.reduceEqDiff,stripL,HV.strip,gU,fZ,Nat.mul_one,List.cons_append,List.nil_append,List.append_nil,I,Bl,T3,List.getD_cons_zero,List.getD_cons_succ,HL.ints_strip,HL.bools_strip,gG];try rfl) (hh1) ?_
     rintro _ rfl
     refine ⟨bF,_,_,_,_,_,gq,(by decide),bC,?_⟩
     repeat (first|refine ag ?_|refine aK ?_)
     refine bI bD (by simp (disch:=omega) only [dO,kS,kF,jr,HV.thaw,dD,aG,aA,if_true,if_false,reduceIte,Nat.reduceEqDiff,stripL,HV.strip,gU,fZ,Nat.mul_one,List.cons_append,List.nil_append,List.append_nil,I,Bl,T3,List.getD_cons_zero,List.getD_cons_succ,HL.ints_strip,HL.bools_strip,gG];try rfl) (hh2) ?_
     rintro _ rfl
     refine ⟨bF,_,_,_,_,_,gq,(by decide),bC,?_⟩
     repeat (first|refine ag ?_|refine aK ?_|refine af ?_|refine aN ?_|refine jI (by rfl) (by rfl) (by (try simp (disch:=omega) only [go_sem,Int.reduceAdd,Int.reduceSub,Int.reduceMul,hbb]);try rfl) ?_|refine ak ?_|refine ae ?_|refine fE ?_|refine aF ?_|refine NQ (by rfl) (by rfl) (by (try simp only [go_sem,reduceIte,hbb]);try rfl) ?_)
     exact dm [1,2,6,7,8,9] (n+1) (by omega) (by omega) rfl
    ·repeat (first|refine ag ?_|refine aK ?_|refine bV ?_|refine af ?_|refine bQ ?_|refine aN ?_|refine aI ?_|refine bu ?_|refine dh ?_|refine ak ?_|refine ah ?_|refine ae ?_|refine fE ?_|refine aF ?_)
     exact dm [1,2,6,7,8,9] (n+1) (by omega) (by omega) rfl
   ·repeat (first|refine ag ?_|refine bV ?_|refine af ?_|refine bQ ?_|refine aI ?_|refine bu ?_|refine dh ?_|refine ak ?_|refine ah ?_|refine ae ?_|refine fE ?_|refine aF ?_)
    exact dm [1,2,6,7,8,9] (n+1) (by omega) (by omega) rfl
 ·obtain rfl:n=5:=by omega
  have hlv:=DT
  repeat (first|refine ag ?_|refine af ?_|refine bK (by rfl) ?_|refine ak ?_|refine ah ?_|refine ae ?_|refine NF (by rfl) (by rfl) lw ?_)
  refine bI bD cO (hlv) ?_
  rintro _ rfl
  refine ⟨bF,_,_,_,_,_,gq,(by decide),bC,?_⟩
  repeat (first|refine ag ?_|refine af ?_)
  refine ax ?_
  rfl
end Go.Proofs.Ytlbdmpjnmfmnfaa
