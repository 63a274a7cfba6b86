import Derived.Test.YteamkjblpglliaaClFits
set_option linter.unusedSimpArgs false
set_option linter.unusedVariables false
namespace Go.Proofs.Yteamkjblpglliaa
open Go.RowKit Go.SL Go.HL
def lacks (g:List (List Int)) (set:List Bool) (i:Nat):Bool:=set.getD i false && (g.getD i []).any fun j=>!(set.getD j.toNat false)
def jg (g:List (List Int)) (set:List Bool):Bool:=jW g set && !((List.range g.length).any (lacks g set))
theorem rC {g:List (List Int)} {set:List Bool} (h:jW g set=true):g.length=set.length/\∀i j,j∈g.getD i []->0<=j/\j < set.length:=by
 unfold jW at h
 simp only [Bool.and_eq_true,decide_eq_true_eq,Bool.not_eq_true',List.any_eq_false] at h
 refine ⟨h.1,fun i j hj=>?_⟩
 by_cases hi:i < g.length
 ·have:=h.2 _ (lS g [] hi)
  simp only [Bool.not_eq_true,List.any_eq_false] at this
  have:=this j hj
  simp [oI] at this
  omega
 ·rw [List.getD_eq_getElem?_getD,List.getElem?_eq_none (by omega)] at hj;cases hj
theorem qX (n:Nat) (p:Nat->Bool):(List.range (n+1)).any p=((List.range n).any p || p n):=by simp [List.range_succ]
theorem uJ {n m:Nat} (p:Nat->Bool) (h:(List.range n).any p=true) (hm:n<=m):(List.range m).any p=true:=by
 rw [List.any_eq_true] at h ⊢
 obtain ⟨x,hx,h2⟩:=h
 exact ⟨x,List.mem_range.2 (by have:=List.mem_range.1 hx;omega),h2⟩
set_option maxHeartbeats 4000000 in
theorem JZ (g:List (List Int)) (set:List Bool) (h1:g.length<=9223372036854775807) (h2:set.length<=9223372036854775807) (h3:∀i,(g.getD i []).length<=9223372036854775807) :
  HT Try.prog 71 [Gs g,Bl set] (fun r=>r=.bool (jW g set)):=by
 refine HT.of rfl aex (Nat.le_of_ble_eq_true rfl) ?_
 unfold c71
 simp only [Gs,Bl,aO,Nat.reduceAdd]
 unfold jW
 by_cases he:g.length=set.length
 ·rw [<- he] at h2 ⊢
  repeat (first|refine ah ?_|refine ag ?_|refine aY ?_|refine aG ?_|refine au ?_|refine ak ?_|refine ae ?_|refine aC ?_|refine aB ?_)
  refine bH [0,1,5] (fun i:Nat=>i<=g.length/\(g.take i).any (fun r=>r.any (oI g.length))=false) (fun i=>⟨[(0,.sl g.length (bf g)),(1,.sl g.length (HL.bools set)),(5,.int .i64 i)],[],0⟩) (fun i=>g.length - i) 0 ⟨by omega,rfl⟩ rfl ?_
  rintro i ⟨hi,hno⟩
  by_cases hil:i < g.length
  ·obtain ⟨row,hrow⟩:∃row,g.getD i []=row:=⟨_,rfl⟩
   have hrl:=h3 i
   rw [hrow] at hrl
   have hst:=any_take_succ g (fun r=>r.any (oI g.length)) [] hil
   rw [hrow,hno,Bool.false_or] at hst
   repeat (first|refine ah ?_|refine ag ?_|refine az ?_|refine aG ?_|refine ax ?_|refine ak ?_|refine ae ?_|refine aC ?_|refine aB ?_)
   refine bH [0,1,5,6] (fun k:Nat=>k<=row.length/\(row.take k).any (oI g.length)=false) (fun k=>⟨[(0,.sl g.length (bf g)),(1,.sl g.length (HL.bools set)),(5,.int .i64 i),(6,.int .i64 k)],[],0⟩) (fun k=>row.length - k) 0 ⟨by omega,rfl⟩ rfl ?_
   rintro k ⟨hk,hkn⟩
   by_cases hkl:k < row.length
   ·obtain ⟨x,hx⟩:∃x,row.getD k 0=x:=⟨_,rfl⟩
    have hst2:=any_take_succ row (oI g.length) 0 hkl
    rw [hx,hkn,Bool.false_or] at hst2
    have bad:oI g.length x=true->(g.any fun r=>r.any (oI g.length))=true:=fun h=>jL g (fun r=>r.any (oI g.length)) (hst.trans (jL row (oI g.length) (hst2.trans h)))
    by_cases h0:x < 0
    ·repeat (first|refine ah ?_|refine bT ?_|refine aN ?_|refine bK (by rfl) aV (by (try simp (disch:=omega) only [go_sem,hrow,hx]);try rfl) ?_|refine ag ?_|refine az ?_|refine aJ ?_|refine aG ?_|refine ax ?_|refine ak ?_|refine ae ?_|refine aC ?_|refine aB ?_)
     refine ay ?_
     rw [bad (by simp [oI,h0])];simp [dN]
    ·by_cases h4:(g.length:Int)<=x
     ·repeat (first|refine ah ?_|refine aH ?_|refine aN ?_|refine bK (by rfl) aV (by (try simp (disch:=omega) only [go_sem,hrow,hx]);try rfl) ?_|refine ag ?_|refine az ?_|refine aI ?_|refine aG ?_|refine ax ?_|refine ak ?_|refine ae ?_|refine aC ?_|refine aB ?_|refine dE ?_)
      refine ay ?_
      rw [bad (by simp [oI,h4])];simp [dN]
     ·repeat (first|refine ah ?_|refine aH ?_|refine aN ?_|refine bK (by rfl) aV (by (try simp (disch:=omega) only [go_sem,hrow,hx]);try rfl) ?_|refine ag ?_|refine az ?_|refine aI ?_|refine dn (by rfl) (by rfl) (by (try simp (disch:=omega) only [go_sem,Int.reduceAdd,Int.reduceSub,Int.reduceMul,hrow,hx]);try rfl) ?_|refine aG ?_|refine ax ?_|refine au ?_|refine ak ?_|refine ae ?_|refine aC ?_|refine dm ?_|refine aB ?_|refine dE ?_)
      exact bQ [0,1,5,6] (k+1) ⟨hkl,hst2.trans (by simp [oI,h0,h4])⟩ (by omega) rfl
   ·obtain rfl:k=row.length:=by omega
    rw [List.take_length] at hkn
    repeat (first|refine ah ?_|refine aN ?_|refine bK (by rfl) aV (by (try simp (disch:=omega) only [go_sem,hrow]);try rfl) ?_|refine ag ?_|refine az ?_|refine dn (by rfl) (by rfl) (by (try simp (disch:=omega) only [go_sem,Int.reduceAdd,Int.reduceSub,Int.reduceMul,hrow]);try rfl) ?_|refine aG ?_|refine bz (by rfl) ?_|refine au ?_|refine ak ?_|refine ae ?_|refine dm ?_)
    exact bQ [0,1,5] (i+1) ⟨hil,hst.trans hkn⟩ (by omega) rfl
  ·obtain rfl:i=g.length:=by omega
   rw [List.take_length] at hno
   repeat (first|refine ah ?_|refine ag ?_|refine az ?_|refine aG ?_|refine bz (by rfl) ?_|refine au ?_|refine ak ?_|refine ae ?_)
   refine ay ?_
   rw [hno];simp [dN]
 ·repeat (first|refine ah ?_|refine ag ?_|refine aY ?_|refine aG ?_|refine ax ?_|refine ak ?_|refine ae ?_)
  refine ay ?_
  simp [dN,he]
theorem Ug (x:Int) (set:List Bool) (h0:0<=x) (h1:x < set.length):HT Try.prog 53 [.int .i64 x,.ptr [.sl set.length (HL.bools set)] 0] (fun r=>r=.bool (!(set.getD x.toNat false))):=by
 refine HT.of rfl aeO (Nat.le_of_ble_eq_true rfl) ?_
 unfold c53
 simp only [aO,Nat.reduceAdd]
 obtain ⟨b,hb⟩:∃b,set.getD x.toNat false=b:=⟨_,rfl⟩
 cases b with
 | true =>
  repeat (first|refine ah ?_|refine aN ?_|refine bK (by rfl) aV (by (try simp (disch:=omega) only [go_sem,hb]);try rfl) ?_|refine ag ?_|refine ak ?_|refine ae ?_|refine fD (by rfl) ?_)
  refine ay ?_
  rw [hb];rfl
 | false =>
  repeat (first|refine ah ?_|refine aN ?_|refine bK (by rfl) aV (by (try simp (disch:=omega) only [go_sem,hb]);try rfl) ?_|refine ag ?_|refine ak ?_|refine ae ?_|refine iL (by rfl) ?_)
  refine ay ?_
  rw [hb];rfl
set_option maxHeartbeats 4000000 in
theorem zn (g:List (List Int)) (set:List Bool) (h1:g.length<=9223372036854775807) (h2:set.length<=9223372036854775807) (h3:∀i,(g.getD i []).length<=9223372036854775807) :
  HT Try.prog 28 [Gs g,Bl set] (fun r=>r=.bool (jg g set)):=by
 refine HT.of rfl aeH (Nat.le_of_ble_eq_true rfl) ?_
 unfold c28
 simp only [Gs,Bl,aO,Nat.reduceAdd]
 unfold jg
 repeat (first|refine ah ?_|refine aF ?_|refine ag ?_|refine ak ?_|refine ae ?_|refine eu ?_)
 refine bg aK (by simp (disch:=omega) only [dL,Gs,HV.thaw,dC,aW,aZ,if_true,if_false,reduceIte,Nat.reduceEqDiff,stripL,HV.strip,fH,dQ,eU,Nat.mul_one,List.cons_append,List.nil_append,List.append_nil,I,Bl,T3,Es,List.getD_cons_zero,List.getD_cons_succ,HL.ints_strip,HL.bools_strip,eH,dZ];try rfl) (Ik g set h1 h2 h3) ?_
 rintro _ rfl
 refine ⟨dF,_,_,_,_,_,dA,(by decide),aQ,?_⟩
 cases hf:jW g set with
 | false =>
  repeat (first|refine ah ?_|refine ag ?_|refine ax ?_|refine ak ?_|refine ae ?_|refine iL (by rfl) ?_)
  refine ay ?_
  simp [dN]
 | true =>
  obtain ⟨he,hin⟩:=rC hf
  repeat (first|refine ah ?_|refine aF ?_|refine ag ?_|refine aG ?_|refine au ?_|refine ak ?_|refine ae ?_|refine aC ?_|refine aB ?_|refine fD (by rfl) ?_)
  refine bH [0,3,11,12,13] (fun i:Nat=>i<=g.length/\(List.range i).any (lacks g set)=false) (fun i=>⟨[(0,.sl g.length (bf g)),(3,.pref 0 [] 0),(11,.sl set.length (HL.bools set)),(12,.int .i64 set.length),(13,.int .i64 i)],[(0,.optr [.sl set.length (HL.bools set)])],1⟩) (fun i=>g.length - i) 0 ⟨by omega,rfl⟩ rfl ?_
  rintro i ⟨hi,hno⟩
  by_cases hil:i < g.length
  ·obtain ⟨row,hrow⟩:∃row,g.getD i []=row:=⟨_,rfl⟩
   have hrl:=h3 i
   rw [hrow] at hrl
   have hst:=qX i (lacks g set)
   rw [hno,Bool.false_or] at hst
   have hlk:lacks g set i=(set.getD i false && row.any fun j=>!(set.getD j.toNat false)):=by unfold lacks;rw [hrow]
   cases hsi:set.getD i false with
   | false =>
    rw [hsi,Bool.false_and] at hlk
    repeat (first|refine ah ?_|refine bT ?_|refine aN ?_|refine bK (by rfl) aV (by (try simp (disch:=omega) only [go_sem,hsi]);try rfl) ?_|refine ag ?_|refine az ?_|refine aI ?_|refine dn (by rfl) (by rfl) (by (try simp (disch:=omega) only [go_sem,Int.reduceAdd,Int.reduceSub,Int.reduceMul,hsi]);try rfl) ?_|refine ax ?_|refine au ?_|refine ak ?_|refine ae ?_|refine aC ?_|refine dm ?_|refine aB ?_)
    exact bQ [0,3,11,12,13] (i+1) ⟨hil,hst.trans hlk⟩ (by omega) rfl
   | true =>
    rw [hsi,Bool.true_and] at hlk
    repeat (first|refine ah ?_|refine aH ?_|refine aN ?_|refine bK (by rfl) aV (by (try simp (disch:=omega) only [go_sem,hsi,hrow]);try rfl) ?_|refine ag ?_|refine az ?_|refine ax ?_|refine ak ?_|refine ae ?_|refine aC ?_|refine aB ?_)
    refine BG aK ?_
    repeat (first|refine aH ?_)
    refine bg aK dO (JX row set.length set _ (fun j=>!(set.getD j.toNat false)) hrl fun x hx=>Ug x set (hin i x (hrow ▸ hx)).1 (hin i x (hrow ▸ hx)).2) ?_
    rintro _ rfl
    refine ⟨dF,_,_,_,_,_,dA,(by decide),aQ,?_⟩
    cases hb:(row.any fun j=>!(set.getD j.toNat false)) with
    | true =>
     repeat (first|refine ah ?_|refine ag ?_|refine aJ ?_|refine ax ?_|refine ak ?_|refine ae ?_)
     refine ay ?_
     rw [uJ (lacks g set) (hst.trans (hlk.trans hb)) (show i+1<=g.length by omega)];simp [dN]
    | false =>
     repeat (first|refine ah ?_|refine ag ?_|refine aJ ?_|refine bM ?_|refine au ?_|refine ae ?_|refine dm ?_|refine aB ?_)
     exact bQ [0,3,11,12,13] (i+1) ⟨hil,hst.trans (hlk.trans hb)⟩ (by omega) rfl
  ·obtain rfl:i=g.length:=by omega
   repeat (first|refine ah ?_|refine ag ?_|refine az ?_|refine bz (by rfl) ?_|refine au ?_|refine ak ?_|refine ae ?_)
   refine ay ?_
   rw [hno];simp [dN]
set_option maxHeartbeats 4000000 in
theorem FQ (g:List (List Int)) (set:List Bool) (h1:g.length<=9223372036854775807) (h2:set.length<=9223372036854775807) (h3:∀i,(g.getD i []).length<=9223372036854775807) :
  HT Try.prog 55 [Gs g,Bl set] (fun r=>r=.bool (jg g set)):=by
 refine HT.of rfl aei (Nat.le_of_ble_eq_true rfl) ?_
 unfold c55
 simp only [Gs,Bl,aO,Nat.reduceAdd]
 unfold jg
 repeat (first|refine ah ?_|refine ag ?_|refine ak ?_|refine ae ?_)
 refine bg aK (by simp (disch:=omega) only [dL,Gs,HV.thaw,dC,aW,aZ,if_true,if_false,reduceIte,Nat.reduceEqDiff,stripL,HV.strip,fH,dQ,eU,Nat.mul_one,List.cons_append,List.nil_append,List.append_nil,I,Bl,T3,Es,List.getD_cons_zero,List.getD_cons_succ,HL.ints_strip,HL.bools_strip,eH,dZ];try rfl) (JZ g set h1 h2 h3) ?_
 rintro _ rfl
 refine ⟨dF,_,_,_,_,_,dA,(by decide),aQ,?_⟩
 cases hf:jW g set with
 | false =>
  repeat (first|refine ah ?_|refine ag ?_|refine ax ?_|refine ak ?_|refine ae ?_|refine iL (by rfl) ?_)
  refine ay ?_
  simp [dN]
 | true =>
  obtain ⟨he,hin⟩:=rC hf
  repeat (first|refine ah ?_|refine ag ?_|refine au ?_|refine ak ?_|refine ae ?_|refine aC ?_|refine aB ?_|refine fD (by rfl) ?_)
  refine bH [0,1,5] (fun i:Nat=>i<=g.length/\(List.range i).any (lacks g set)=false) (fun i=>⟨[(0,.sl g.length (bf g)),(1,.sl set.length (HL.bools set)),(5,.int .i64 i)],[],0⟩) (fun i=>g.length - i) 0 ⟨by omega,rfl⟩ rfl ?_
  rintro i ⟨hi,hno⟩
  by_cases hil:i < g.length
  ·obtain ⟨row,hrow⟩:∃row,g.getD i []=row:=⟨_,rfl⟩
   have hrl:=h3 i
   rw [hrow] at hrl
   have hst:=qX i (lacks g set)
   rw [hno,Bool.false_or] at hst
   have hlk:lacks g set i=(set.getD i false && row.any fun j=>!(set.getD j.toNat false)):=by unfold lacks;rw [hrow]
   repeat (first|refine ah ?_|refine ag ?_|refine az ?_|refine aG ?_|refine ax ?_|refine ak ?_|refine ae ?_|refine aC ?_|refine aB ?_)
   refine bH [0,1,5,6] (fun k:Nat=>k<=row.length/\(set.getD i false && (row.take k).any fun j=>!(set.getD j.toNat false))=false) (fun k=>⟨[(0,.sl g.length (bf g)),(1,.sl set.length (HL.bools set)),(5,.int .i64 i),(6,.int .i64 k)],[],0⟩) (fun k=>row.length - k) 0 ⟨by omega,by simp⟩ rfl ?_
   rintro k ⟨hk,hkn⟩
   by_cases hkl:k < row.length
   ·obtain ⟨x,hx⟩:∃x,row.getD k 0=x:=⟨_,rfl⟩
    have hxi:=hin i x (by rw [hrow,<- hx];exact lS row 0 hkl)
    have hst2:=any_take_succ row (fun j=>!(set.getD j.toNat false)) 0 hkl
    rw [hx] at hst2
    cases hsi:set.getD i false with
    | false =>
     repeat (first|refine ah ?_|refine bT ?_|refine aN ?_|refine bK (by rfl) aV (by (try simp (disch:=omega) only [go_sem,hrow,hx,hsi]);try rfl) ?_|refine ag ?_|refine az ?_|refine aI ?_|refine dn (by rfl) (by rfl) (by (try simp (disch:=omega) only [go_sem,Int.reduceAdd,Int.reduceSub,Int.reduceMul,hrow,hx,hsi]);try rfl) ?_|refine aG ?_|refine ax ?_|refine au ?_|refine ak ?_|refine ae ?_|refine aC ?_|refine dm ?_|refine aB ?_)
     exact bQ [0,1,5,6] (k+1) ⟨hkl,by (try rw [hsi]);rfl⟩ (by omega) rfl
    | true =>
     rw [hsi,Bool.true_and] at hkn hlk
     rw [hkn,Bool.false_or] at hst2
     cases hsx:set.getD x.toNat false with
     | false =>
      repeat (first|refine ah ?_|refine aH ?_|refine aN ?_|refine bK (by rfl) aV (by (try simp (disch:=omega) only [go_sem,hrow,hx,hsi,hsx]);try rfl) ?_|refine ag ?_|refine az ?_|refine aJ ?_|refine aG ?_|refine ax ?_|refine ak ?_|refine ae ?_|refine aC ?_|refine aB ?_|refine iL (by rfl) ?_)
      refine ay ?_
      rw [uJ (lacks g set) (hst.trans (hlk.trans (jL row _ (hst2.trans (by rw [hsx];rfl))))) (show i+1<=g.length by omega)];simp [dN]
     | true =>
      repeat (first|refine ah ?_|refine aH ?_|refine aN ?_|refine bK (by rfl) aV (by (try simp (disch:=omega) only [go_sem,hrow,hx,hsi,hsx]);try rfl) ?_|refine ag ?_|refine az ?_|refine aJ ?_|refine dn (by rfl) (by rfl) (by (try simp (disch:=omega) only [go_sem,Int.reduceAdd,Int.reduceSub,Int.reduceMul,hrow,hx,hsi,hsx]);try rfl) ?_|refine aG ?_|refine ax ?_|refine au ?_|refine ak ?_|refine ae ?_|refine aC ?_|refine dm ?_|refine aB ?_|refine fD (by rfl) ?_)
      exact bQ [0,1,5,6] (k+1) ⟨hkl,by (try rw [hsi]);rw [Bool.true_and];exact hst2.trans (by rw [hsx];rfl)⟩ (by omega) rfl
   ·obtain rfl:k=row.length:=by omega
    rw [List.take_length] at hkn
    repeat (first|refine ah ?_|refine aN ?_|refine bK (by rfl) aV (by (try simp (disch:=omega) only [go_sem,hrow]);try rfl) ?_|refine ag ?_|refine az ?_|refine dn (by rfl) (by rfl) (by (try simp (disch:=omega) only [go_sem,Int.reduceAdd,Int.reduceSub,Int.reduceMul,hrow]);try rfl) ?_|refine aG ?_|refine bz (by rfl) ?_|refine au ?_|refine ak ?_|refine ae ?_|refine dm ?_)
    exact bQ [0,1,5] (i+1) ⟨hil,hst.trans (hlk.trans hkn)⟩ (by omega) rfl
  ·obtain rfl:i=g.length:=by omega
   repeat (first|refine ah ?_|refine ag ?_|refine az ?_|refine aG ?_|refine bz (by rfl) ?_|refine au ?_|refine ak ?_|refine ae ?_)
   refine ay ?_
   rw [hno];simp [dN]
end Go.Proofs.Yteamkjblpglliaa
