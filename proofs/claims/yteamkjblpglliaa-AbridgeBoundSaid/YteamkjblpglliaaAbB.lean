import Derived.Test.YteamkjblpglliaaAbA
set_option linter.unusedSimpArgs false
set_option linter.unusedVariables false
namespace Go.Proofs.Yteamkjblpglliaa
open Go.RowKit Go.SL Go.HL
theorem WOK.zeros (n:Nat):WOK (List.replicate n 0):=fun i=>by
 rw [List.getD_eq_getElem?_getD,List.getElem?_replicate]
 split <;> simp
theorem Pb.wany {W C:List Int} {nd:List (List Nat)} {B:Int} (h:Pb W C nd B):W.any (fun n=>!(decide (0<=n) && decide (n<=1048576)))=false:=by
 rw [List.any_eq_false]
 intro x hx
 obtain ⟨i,hi,rfl⟩:=List.getElem_of_mem hx
 have:=h.w i
 rw [List.getD_eq_getElem?_getD,List.getElem?_eq_getElem hi,Option.getD_some] at this
 simp [this.1,this.2]
theorem Pb.cany {W C:List Int} {nd:List (List Nat)} {B:Int} (h:Pb W C nd B):C.any (fun n=>!(decide (0<=n) && decide (n<=1048576)))=false:=by
 rw [List.any_eq_false]
 intro x hx
 obtain ⟨i,hi,rfl⟩:=List.getElem_of_mem hx
 have:=h.c i
 rw [List.getD_eq_getElem?_getD,List.getElem?_eq_getElem hi,Option.getD_some] at this
 simp [this.1,this.2]
set_option maxHeartbeats 4000000 in
theorem sF {W C:List Int} {nd:List (List Nat)} {B:Int} (h:Pb W C nd B):HT Try.prog 34 [.agg (jX W C nd B)] (fun r=>r=.bool true):=by
 have hsz:=h.g.size
 have hlw:=h.lw
 have hlc:=h.lc
 have hB:=h.b
 have hnl:(nd.map nl).length=nd.length:=by simp
 have hrl:(List.replicate nd.length (0:Int)).length=nd.length:=by simp
 have hwi:=jG B 0 268435456
 rw [decide_eq_true hB.1,decide_eq_true hB.2] at hwi
 have hcv:=(zC (List.replicate nd.length 0) (nd.map nl) (by omega) (by simp;omega) (fun i=>by rw [dM,fE];have:=h.g.len i;omega)).mono (K':=fun r=>r=.bool true) (by
  rintro _ ⟨b,rfl,hb⟩
  rw [hb.2 (VW.of h.g (WOK.zeros _) (by simp))])
 have ha1:=Io W 56 _ (by omega) (fun x _=>yG x)
 have ha2:=Io C 56 _ (by omega) (fun x _=>yG x)
 rw [h.wany,I,hlw] at ha1
 rw [h.cany,I,hlc] at ha2
 simp only [I,Gs,List.length_replicate,hnl] at hcv
 refine HT.of rfl aeY (Nat.le_of_ble_eq_true rfl) ?_
 unfold c34
 simp only [I,Gs,jX,aO,Nat.reduceAdd,hlw,hlc,hnl]
 refine ak ?_
 refine ae ?_
 repeat (first|refine ah ?_|refine ag ?_|refine eu ?_)
 refine ak ?_
 refine ae ?_
 repeat (first|refine ah ?_|refine aF ?_|refine ag ?_|refine aG ?_|refine aA ?_)
 refine ak ?_
 refine ae ?_
 repeat (first|refine ah ?_|refine ag ?_)
 refine ak ?_
 refine bU aU aU (fun f _ r=>r=.bool (f != 52)) ?_
 repeat (first|refine ah ?_|refine aH ?_|refine aF ?_|refine aX ?_|refine aJ ?_|refine aG ?_|refine aA ?_)
 refine bF aK dO hwi ⟨_,rfl,rfl⟩ ?_
 rintro _ rfl -
 refine ⟨dF,_,_,_,_,_,dA,(by decide),aQ,?_⟩
 repeat (first|refine ah ?_|refine aH ?_|refine aF ?_|refine aJ ?_|refine aA ?_|refine kZ gY (by rfl) (by omega) di di ?_)
 refine bF aK dO hcv ⟨_,rfl,rfl⟩ ?_
 rintro _ rfl -
 refine ⟨dF,_,_,_,_,_,dA,(by decide),aQ,?_⟩
 repeat (first|refine ah ?_|refine aH ?_|refine aF ?_|refine aJ ?_|refine aA ?_)
 refine bF aK dO ha1 ⟨_,rfl,rfl⟩ ?_
 rintro _ rfl -
 refine ⟨dF,_,_,_,_,_,dA,(by decide),aQ,?_⟩
 repeat (first|refine ah ?_|refine aH ?_|refine aF ?_|refine aJ ?_|refine iL (by rfl) ?_|refine aA ?_)
 refine bF aK dO ha2 ⟨_,rfl,rfl⟩ ?_
 rintro _ rfl -
 refine ⟨dF,_,_,_,_,_,dA,(by decide),aQ,?_⟩
 repeat (first|refine ah ?_|refine aH ?_|refine ag ?_|refine aJ ?_|refine iL (by rfl) ?_)
 refine ay ?_
 rfl
set_option maxHeartbeats 4000000 in
theorem BX {W C:List Int} {nd:List (List Nat)} {B:Int} (h:Pb W C nd B):HT Try.prog 36 [.agg (jX W C nd B)] (fun r=>r=.bool true):=by
 have hsz:=h.g.size
 have hlw:=h.lw
 have hlc:=h.lc
 have hB:=h.b
 have hnl:(nd.map nl).length=nd.length:=by simp
 have hrl:(List.replicate nd.length (0:Int)).length=nd.length:=by simp
 have hcv:=(qW (List.replicate nd.length 0) (nd.map nl) (by omega) (by simp;omega) (fun i=>by rw [dM,fE];have:=h.g.len i;omega)).mono (K':=fun r=>r=.bool true) (by
  rintro _ ⟨b,rfl,hb⟩
  rw [hb.2 (VW.of h.g (WOK.zeros _) (by simp))])
 simp only [I,Gs,List.length_replicate,hnl] at hcv
 refine HT.of rfl aet (Nat.le_of_ble_eq_true rfl) ?_
 unfold c36
 simp only [I,Gs,jX,aO,Nat.reduceAdd,hlw,hlc,hnl]
 repeat (first|refine ah ?_|refine aH ?_|refine aF ?_|refine ag ?_|refine az ?_|refine aY ?_|refine aI ?_|refine aG ?_|refine au ?_|refine ak ?_|refine ae ?_|refine aC ?_|refine aB ?_|refine bu ?_|refine aA ?_|refine eu ?_)
 refine bH [1,2,3,4] (fun i:Nat=>i<=nd.length) (fun i=>⟨[(1,.pref 0 [] 0),(2,.bool false),(3,.int .i64 nd.length),(4,.int .i64 i)],[(0,.optr [.sl nd.length (HL.ints W),.sl nd.length (HL.ints C),.sl nd.length (bf (nd.map nl)),.int .i64 B])],1⟩) (fun i=>nd.length - i) 0 (by omega) rfl ?_
 intro i hi
 by_cases hil:i < nd.length
 ·have hw:=h.w i
  have hc:=h.c i
  obtain ⟨x,hx⟩:∃x,W.getD i 0=x:=⟨_,rfl⟩
  obtain ⟨y,hy⟩:∃x,C.getD i 0=x:=⟨_,rfl⟩
  rw [hx] at hw
  rw [hy] at hc
  repeat (first|refine ah ?_|refine aH ?_|refine aN ?_|refine bK (by rfl) aV (by (try simp (disch:=omega) only [go_sem,hx,hy]);try rfl) ?_|refine gX (by rfl) dK (by (try simp (disch:=omega) only [go_sem,reduceIte,Nat.reduceEqDiff,Nat.reduceAdd,Nat.reduceMul,hx,hy]);try rfl) aV (by (try simp (disch:=omega) only [go_sem,hx,hy]);try rfl) gy ?_|refine ag ?_|refine az ?_|refine aI ?_|refine dn (by rfl) (by rfl) (by (try simp (disch:=omega) only [go_sem,Int.reduceAdd,Int.reduceSub,Int.reduceMul,hx,hy]);try rfl) ?_|refine ax ?_|refine au ?_|refine ak ?_|refine ae ?_|refine aC ?_|refine dm ?_|refine aB ?_|refine bu ?_|refine aA ?_)
  exact bQ [1,2,3,4] (i+1) hil (by omega) rfl
 ·obtain rfl:i=nd.length:=by omega
  repeat (first|refine ah ?_|refine ag ?_|refine az ?_|refine bz (by rfl) ?_|refine au ?_|refine ak ?_|refine ae ?_)
  refine bU aU aU (fun _ _ r=>r=.bool true) ?_
  repeat (first|refine ah ?_|refine aF ?_|refine aA ?_|refine kZ gY (by rfl) (by omega) di di ?_)
  refine bF aK dO hcv ⟨_,rfl,rfl⟩ ?_
  rintro _ rfl -
  refine ⟨dF,_,_,_,_,_,dA,(by decide),aQ,?_⟩
  repeat (first|refine ah ?_|refine ag ?_)
  refine ay ?_
  rfl
def ik (W C:List Int) (num den:Int):List Int:=(List.range W.length).map fun i=>den * W.getD i 0 - num * C.getD i 0
theorem mQ (W C:List Int) (num den:Int):(ik W C num den).length=W.length:=by simp [ik]
theorem oQ (W C:List Int) (num den:Int) {i:Nat} (h:i < W.length):(ik W C num den).getD i 0=den * W.getD i 0 - num * C.getD i 0:=by simp [ik,h]
def Mul (num den:Int):Prop:=(0<=num/\num<=1048576)/\1<=den/\den<=1048576
theorem vK {a b:Int} (h1:0<=a) (h2:a<=1048576) (h3:0<=b) (h4:b<=1048576):0<=a * b/\a * b<=1099511627776:=by
 refine ⟨Int.mul_nonneg h1 h3,?_⟩
 have:=Int.mul_le_mul h2 h4 h3 (by omega:(0:Int)<=1048576)
 omega
theorem J6 (L:List Int) {i:Nat} (h:i < L.length):(L.take i ++ List.replicate (L.length - i) 0).set i (L.getD i 0)=L.take (i+1) ++ List.replicate (L.length - (i+1)) 0:=by
 rw [cO L i 0 h,show L.length - i=(L.length - (i+1))+1 by omega,List.replicate_succ,List.append_assoc]
 rw [List.set_append_right _ _ (by simp;omega)]
 simp [Nat.min_eq_left (Nat.le_of_lt h)]
theorem KH (L:List Int) {i:Nat} (h:i < L.length):(L.take (i+1) ++ List.replicate (L.length - (i+1)) 0).getD i 0=L.getD i 0:=by
 rw [List.getD_eq_getElem?_getD,List.getElem?_append_left (by simp;omega),List.getElem?_take_of_lt (by omega),List.getD_eq_getElem?_getD]
def WtR (e:Int) (W C:List Int) (num den:Int) (n:Nat) (ok er:HV) (r:HV):Prop:=(WOK (ik W C num den)/\r=.tup [.osl 1 n (HL.ints (ik W C num den)),ok])\/(¬ WOK (ik W C num den)/\r=.tup [.osl 1 0 [],er])
set_option maxHeartbeats 4000000 in
theorem tJ {W C:List Int} {nd:List (List Nat)} {B:Int} (h:Pb W C nd B) (num den:Int) (hm:Mul num den):HT Try.prog 46 [.agg (jX W C nd B),.int .i64 num,.int .i64 den] (WtR 0 W C num den nd.length (.int .i64 0) (.int .i64 5)):=by
 have hsz:=h.g.size
 have hlw:=h.lw
 have hlc:=h.lc
 have hB:=h.b
 obtain ⟨hnum,hden⟩:=hm
 have hnl:(nd.map nl).length=nd.length:=by simp
 have hL:=mQ W C num den
 rw [hlw] at hL
 refine HT.of rfl abT (Nat.le_of_ble_eq_true rfl) ?_
 unfold c46
 simp only [I,Gs,jX,aO,Nat.reduceAdd,hlw,hlc,hnl]
 repeat (first|refine ah ?_|refine ag ?_|refine ak ?_|refine ae ?_|refine fM rfl (by rfl) gY ?_|refine eu ?_)
 refine bg aK dO (jG num 0 1048576) ?_
 rintro _ rfl
 rw [decide_eq_true hnum.1,decide_eq_true hnum.2]
 refine ⟨dF,_,_,_,_,_,dA,(by decide),aQ,?_⟩
 repeat (first|refine ah ?_|refine aH ?_|refine fD (by rfl) ?_)
 refine bg aK dO (jG den 1 1048576) ?_
 rintro _ rfl
 rw [decide_eq_true hden.1,decide_eq_true hden.2]
 refine ⟨dF,_,_,_,_,_,dA,(by decide),aQ,?_⟩
 repeat (first|refine ah ?_|refine aH ?_|refine aF ?_|refine ag ?_|refine aI ?_|refine jd (by rfl) ?_|refine aG ?_|refine au ?_|refine ak ?_|refine ae ?_|refine aC ?_|refine aB ?_|refine fD (by rfl) ?_|refine aA ?_|refine kZ gY (by rfl) (by omega) di di ?_)
 refine bH [1,2,3,8,22,23,24] (fun i:Nat=>i<=nd.length/\∀k,k < i -> -2147483648<=(ik W C num den).getD k 0/\(ik W C num den).getD k 0<=2147483648) (fun i=>⟨[(1,.int .i64 num),(2,.int .i64 den),(3,.pref 0 [] 0),(8,.ref 1 [] 1 0 nd.length),(22,.ref 1 [] 1 0 nd.length),(23,.int .i64 nd.length),(24,.int .i64 i)],[(0,.optr [.sl nd.length (HL.ints W),.sl nd.length (HL.ints C),.sl nd.length (bf (nd.map nl)),.int .i64 B]),(1,.osl 1 nd.length (HL.ints ((ik W C num den).take i ++ List.replicate ((ik W C num den).length - i) 0)))],2⟩) (fun i=>nd.length - i) 0 ⟨by omega,by omega⟩ (by rw [List.take_zero,List.nil_append,Nat.sub_zero,hL];rfl) ?_
 rintro i ⟨hi,hok⟩
 by_cases hil:i < nd.length
 ·have hw:=h.w i
  have hc:=h.c i
  have hg:=oQ W C num den (i:=i) (by omega)
  have b1:=vK (a:=den) (b:=W.getD i 0) (by omega) (by omega) hw.1 hw.2
  have b2:=vK (a:=num) (b:=C.getD i 0) (by omega) (by omega) hc.1 hc.2
  have hsp:=J6 (ik W C num den) (i:=i) (by omega)
  have hpg:=KH (ik W C num den) (i:=i) (by omega)
  obtain ⟨x,hx⟩:∃x,W.getD i 0=x:=⟨_,rfl⟩
  obtain ⟨y,hy⟩:∃x,C.getD i 0=x:=⟨_,rfl⟩
  rw [hx] at hw b1 hg
  rw [hy] at hc b2 hg
  rw [hg] at hsp hpg
  rw [<- hsp] at hpg
  have hend:=hsp
  generalize hL0:(ik W C num den).take i ++ List.replicate ((ik W C num den).length - i) 0=L0 at *
  have hL0l:L0.length=nd.length:=by rw [<- hL0];simp;omega
  have hsl:(L0.set i (den * x - num * y)).length=nd.length:=by simp [hL0l]
  repeat (first|refine ah ?_|refine ag ?_|refine az ?_|refine ax ?_|refine ak ?_|refine ae ?_|refine aC ?_|refine aB ?_)
  refine bU aU aU (fun _ _ _=>False) ?_
  repeat (first|refine ah ?_|refine aN ?_|refine dH ?_|refine bK (by rfl) aV (by (try simp (disch:=omega) only [go_sem,hx,hy,hpg]);try rfl) ?_|refine gX (by rfl) dK (by (try simp (disch:=omega) only [go_sem,reduceIte,Nat.reduceEqDiff,Nat.reduceAdd,Nat.reduceMul,hx,hy,hpg]);try rfl) aV (by (try simp (disch:=omega) only [go_sem,hx,hy,hpg]);try rfl) gy ?_|refine ag ?_|refine ak ?_|refine ae ?_|refine ig (by rfl) (by rfl) (by (try simp (disch:=omega) only [go_sem,Int.reduceAdd,Int.reduceSub,Int.reduceMul,hx,hy,hpg]);try rfl) ?_|refine mf (by rfl) (by rfl) (by (try simp (disch:=omega) only [go_sem,Int.reduceAdd,Int.reduceSub,Int.reduceMul,hx,hy,hpg]);try rfl) ?_|refine aA ?_|refine E5 (by rfl) gy di Gy (by rfl) (by decide) dK di aV (by (try simp (disch:=omega) only [go_sem,hx,hy,hpg]);try rfl) di ?_)
  refine bg aK dO (jG (den * x - num * y) (-2147483648) 2147483648) ?_
  rintro _ rfl
  refine ⟨dF,_,_,_,_,_,dA,(by decide),aQ,?_⟩
  by_cases hin : -2147483648<=den * x - num * y/\den * x - num * y<=2147483648
  ·rw [decide_eq_true hin.1,decide_eq_true hin.2]
   repeat (first|refine ah ?_|refine ag ?_|refine bM ?_|refine au ?_|refine ae ?_|refine dm ?_|refine aB ?_|refine fD (by rfl) ?_)
   refine bQ [1,2,3,8,22,23,24] (i+1) ⟨hil,fun k hk=>?_⟩ (by omega) (by rw [hend];rfl)
   by_cases hki:k < i
   ·exact hok k hki
   ·obtain rfl:k=i:=by omega
    rw [hg];exact hin
  ·have hf:(decide (-2147483648<=den * x - num * y) && decide (den * x - num * y<=2147483648))=false:=by
    simp only [Bool.and_eq_false_iff,decide_eq_false_iff_not]
    omega
   rw [hf]
   repeat (first|refine ah ?_|refine ag ?_|refine ax ?_|refine ak ?_|refine ae ?_|refine fM rfl (by rfl) gY ?_|refine iL (by rfl) ?_)
   refine ay ?_
   refine .inr ⟨fun hk=>hin ?_,rfl⟩
   have:=hk i
   rw [hg] at this
   exact this
 ·obtain rfl:i=nd.length:=by omega
  have he:(ik W C num den).take nd.length ++ List.replicate ((ik W C num den).length - nd.length) 0=ik W C num den:=by
   rw [hL,List.take_of_length_le (l:=ik W C num den) (by omega)];simp
  rw [he]
  repeat (first|refine ah ?_|refine ag ?_|refine az ?_|refine bz (by rfl) ?_|refine au ?_|refine ak ?_|refine ae ?_)
  refine ay ?_
  refine .inl ⟨fun k=>?_,rfl⟩
  by_cases hk:k < nd.length
  ·exact hok k hk
  ·rw [List.getD_eq_getElem?_getD,List.getElem?_eq_none (by omega)];simp
set_option maxHeartbeats 4000000 in
theorem qV {W C:List Int} {nd:List (List Nat)} {B:Int} (h:Pb W C nd B) (num den:Int) (hm:¬ Mul num den):HT Try.prog 46 [.agg (jX W C nd B),.int .i64 num,.int .i64 den] (fun r=>r=.tup [.osl 1 0 [],.int .i64 1]):=by
 have hsz:=h.g.size
 have hlw:=h.lw
 have hlc:=h.lc
 have hnl:(nd.map nl).length=nd.length:=by simp
 refine HT.of rfl abT (Nat.le_of_ble_eq_true rfl) ?_
 unfold c46
 simp only [I,Gs,jX,aO,Nat.reduceAdd,hlw,hlc,hnl]
 repeat (first|refine ah ?_|refine ag ?_|refine ak ?_|refine ae ?_|refine fM rfl (by rfl) gY ?_|refine eu ?_)
 refine bg aK dO (jG num 0 1048576) ?_
 rintro _ rfl
 refine ⟨dF,_,_,_,_,_,dA,(by decide),aQ,?_⟩
 by_cases hn:0<=num/\num<=1048576
 ·have hd:(decide (1<=den) && decide (den<=1048576))=false:=by
   simp only [Bool.and_eq_false_iff,decide_eq_false_iff_not]
   unfold Mul at hm
   omega
  rw [decide_eq_true hn.1,decide_eq_true hn.2]
  repeat (first|refine ah ?_|refine aH ?_|refine fD (by rfl) ?_)
  refine bg aK dO (jG den 1 1048576) ?_
  rintro _ rfl
  rw [hd]
  refine ⟨dF,_,_,_,_,_,dA,(by decide),aQ,?_⟩
  repeat (first|refine ah ?_|refine aH ?_|refine ag ?_|refine aI ?_|refine ax ?_|refine ak ?_|refine ae ?_|refine fM rfl (by rfl) gY ?_|refine iL (by rfl) ?_)
  refine ay ?_
  rfl
 ·have hd:(decide (0<=num) && decide (num<=1048576))=false:=by
   simp only [Bool.and_eq_false_iff,decide_eq_false_iff_not]
   omega
  rw [hd]
  repeat (first|refine ah ?_|refine bT ?_|refine ag ?_|refine aJ ?_|refine ax ?_|refine ak ?_|refine ae ?_|refine fM rfl (by rfl) gY ?_|refine iL (by rfl) ?_)
  refine ay ?_
  rfl
set_option maxHeartbeats 4000000 in
theorem Og (num den:Int):HT Try.prog 37 [.int .i64 num,.int .i64 den] (fun r=>∃b,r=.bool b/\(b=true <-> Mul num den)):=by
 unfold Mul
 refine HT.of rfl adU (Nat.le_of_ble_eq_true rfl) ?_
 unfold c37
 simp only [aO,Nat.reduceAdd]
 by_cases h1:0<=num
 ·by_cases h2:num<=1048576
  ·by_cases h3:1<=den
   ·by_cases h4:den<=1048576
    ·repeat (first|refine ah ?_|refine aH ?_|refine ag ?_|refine aJ ?_|refine ak ?_|refine ae ?_|refine dI ?_|refine dE ?_)
     refine ay ?_
     exact ⟨true,rfl,by simp [h1,h2,h3,h4]⟩
    ·repeat (first|refine ah ?_|refine aH ?_|refine ag ?_|refine aJ ?_|refine ak ?_|refine ae ?_|refine dI ?_|refine dE ?_)
     refine ay ?_
     exact ⟨false,rfl,by simp [h1,h2,h3,h4]⟩
   ·repeat (first|refine ah ?_|refine aH ?_|refine bT ?_|refine ag ?_|refine aJ ?_|refine aI ?_|refine ak ?_|refine ae ?_|refine dI ?_|refine dE ?_)
    refine ay ?_
    exact ⟨false,rfl,by simp [h1,h2,h3]⟩
  ·repeat (first|refine ah ?_|refine aH ?_|refine bT ?_|refine ag ?_|refine aJ ?_|refine aI ?_|refine ak ?_|refine ae ?_|refine dI ?_|refine dE ?_)
   refine ay ?_
   exact ⟨false,rfl,by simp [h1,h2]⟩
 ·repeat (first|refine ah ?_|refine bT ?_|refine ag ?_|refine aI ?_|refine ak ?_|refine ae ?_|refine dE ?_)
  refine ay ?_
  exact ⟨false,rfl,by simp [h1]⟩
set_option maxHeartbeats 4000000 in
theorem D6 {W C:List Int} {nd:List (List Nat)} {B:Int} (h:Pb W C nd B) (num den:Int) (hm:Mul num den):HT Try.prog 13 [.agg (jX W C nd B),.int .i64 num,.int .i64 den] (WtR 0 W C num den nd.length (.bool true) (.bool false)):=by
 have hsz:=h.g.size
 have hlw:=h.lw
 have hlc:=h.lc
 obtain ⟨hnum,hden⟩:=hm
 have hnl:(nd.map nl).length=nd.length:=by simp
 have hL:=mQ W C num den
 rw [hlw] at hL
 refine HT.of rfl ad9 (Nat.le_of_ble_eq_true rfl) ?_
 unfold c13
 simp only [I,Gs,jX,aO,Nat.reduceAdd,hlw,hlc,hnl]
 repeat (first|refine ah ?_|refine ag ?_|refine ak ?_|refine ae ?_|refine aC ?_|refine fM rfl (by rfl) gY ?_|refine eu ?_)
 refine bH [1,2,3,8,9] (fun i:Nat=>i<=nd.length/\∀k,k < i -> -2147483648<=(ik W C num den).getD k 0/\(ik W C num den).getD k 0<=2147483648) (fun i=>⟨[(1,.int .i64 num),(2,.int .i64 den),(3,.pref 0 [] 0),(8,.ref 1 [] 1 0 i),(9,.int .i64 i)],[(0,.optr [.sl nd.length (HL.ints W),.sl nd.length (HL.ints C),.sl nd.length (bf (nd.map nl)),.int .i64 B]),(1,.osl 1 i (HL.ints ((ik W C num den).take i)))],2⟩) (fun i=>nd.length - i) 0 ⟨by omega,by omega⟩ rfl ?_
 rintro i ⟨hi,hok⟩
 have htl:((ik W C num den).take i).length=i:=by simp;omega
 by_cases hil:i < nd.length
 ·have hw:=h.w i
  have hc:=h.c i
  have hg:=oQ W C num den (i:=i) (by omega)
  have b1:=vK (a:=den) (b:=W.getD i 0) (by omega) (by omega) hw.1 hw.2
  have b2:=vK (a:=num) (b:=C.getD i 0) (by omega) (by omega) hc.1 hc.2
  have hts:=cO (ik W C num den) i 0 (by omega)
  obtain ⟨x,hx⟩:∃x,W.getD i 0=x:=⟨_,rfl⟩
  obtain ⟨y,hy⟩:∃x,C.getD i 0=x:=⟨_,rfl⟩
  rw [hx] at hw b1 hg
  rw [hy] at hc b2 hg
  rw [hg] at hts
  repeat (first|refine ah ?_|refine aF ?_|refine ag ?_|refine az ?_|refine aG ?_|refine ax ?_|refine ak ?_|refine ae ?_|refine aC ?_|refine aB ?_|refine aA ?_)
  refine bU aU aU (fun _ _ _=>False) ?_
  by_cases h1:den * x - num * y < -2147483648
  ·repeat (first|refine ah ?_|refine bT ?_|refine aN ?_|refine bK (by rfl) aV (by (try simp (disch:=omega) only [go_sem,hx,hy]);try rfl) ?_|refine gX (by rfl) dK (by (try simp (disch:=omega) only [go_sem,reduceIte,Nat.reduceEqDiff,Nat.reduceAdd,Nat.reduceMul,hx,hy]);try rfl) aV (by (try simp (disch:=omega) only [go_sem,hx,hy]);try rfl) gy ?_|refine ag ?_|refine az ?_|refine aJ ?_|refine ax ?_|refine ak ?_|refine ae ?_|refine fM rfl (by rfl) gY ?_|refine ig (by rfl) (by rfl) (by (try simp (disch:=omega) only [go_sem,Int.reduceAdd,Int.reduceSub,Int.reduceMul,hx,hy]);try rfl) ?_|refine mf (by rfl) (by rfl) (by (try simp (disch:=omega) only [go_sem,Int.reduceAdd,Int.reduceSub,Int.reduceMul,hx,hy]);try rfl) ?_|refine aA ?_)
   refine ay ?_
   refine .inr ⟨fun hk=>?_,rfl⟩
   have:=hk i
   rw [hg] at this
   omega
  ·by_cases h2:den * x - num * y > 2147483648
   ·repeat (first|refine ah ?_|refine aH ?_|refine aN ?_|refine bK (by rfl) aV (by (try simp (disch:=omega) only [go_sem,hx,hy]);try rfl) ?_|refine gX (by rfl) dK (by (try simp (disch:=omega) only [go_sem,reduceIte,Nat.reduceEqDiff,Nat.reduceAdd,Nat.reduceMul,hx,hy]);try rfl) aV (by (try simp (disch:=omega) only [go_sem,hx,hy]);try rfl) gy ?_|refine ag ?_|refine az ?_|refine aI ?_|refine ax ?_|refine ak ?_|refine ae ?_|refine fM rfl (by rfl) gY ?_|refine ig (by rfl) (by rfl) (by (try simp (disch:=omega) only [go_sem,Int.reduceAdd,Int.reduceSub,Int.reduceMul,hx,hy]);try rfl) ?_|refine mf (by rfl) (by rfl) (by (try simp (disch:=omega) only [go_sem,Int.reduceAdd,Int.reduceSub,Int.reduceMul,hx,hy]);try rfl) ?_|refine bu ?_|refine aA ?_)
    refine ay ?_
    refine .inr ⟨fun hk=>?_,rfl⟩
    have:=hk i
    rw [hg] at this
    omega
   ·repeat (first|refine ah ?_|refine aH ?_|refine aN ?_|refine bK (by rfl) aV (by (try simp (disch:=omega) only [go_sem,hx,hy]);try rfl) ?_|refine gX (by rfl) dK (by (try simp (disch:=omega) only [go_sem,reduceIte,Nat.reduceEqDiff,Nat.reduceAdd,Nat.reduceMul,hx,hy]);try rfl) aV (by (try simp (disch:=omega) only [go_sem,hx,hy]);try rfl) gy ?_|refine ag ?_|refine az ?_|refine aI ?_|refine dn (by rfl) (by rfl) (by (try simp (disch:=omega) only [go_sem,Int.reduceAdd,Int.reduceSub,Int.reduceMul,hx,hy]);try rfl) ?_|refine au ?_|refine ak ?_|refine ae ?_|refine dm ?_|refine aB ?_|refine ig (by rfl) (by rfl) (by (try simp (disch:=omega) only [go_sem,Int.reduceAdd,Int.reduceSub,Int.reduceMul,hx,hy]);try rfl) ?_|refine mf (by rfl) (by rfl) (by (try simp (disch:=omega) only [go_sem,Int.reduceAdd,Int.reduceSub,Int.reduceMul,hx,hy]);try rfl) ?_|refine bu ?_|refine aA ?_|refine dS ?_|refine jC gY (by rfl) gy Et (by (try simp (disch:=omega) only [go_sem,reduceIte,Nat.reduceEqDiff,Nat.reduceAdd,Nat.reduceMul,hx,hy]);try omega) dK (by (try simp (disch:=omega) only [go_sem,reduceIte,Nat.reduceEqDiff,Nat.reduceAdd,Nat.reduceMul,hx,hy]);try rfl) gY (by omega) kQ aV (by (try simp (disch:=omega) only [go_sem,reduceIte,Nat.reduceEqDiff,Nat.reduceAdd,Nat.reduceMul,hx,hy]);try rfl) di ?_)
    refine bQ [1,2,3,8,9] (i+1) ⟨hil,fun k hk=>?_⟩ (by omega) (by rw [hts];rfl)
    by_cases hki:k < i
    ·exact hok k hki
    ·obtain rfl:k=i:=by omega
     rw [hg];omega
 ·obtain rfl:i=nd.length:=by omega
  rw [List.take_of_length_le (l:=ik W C num den) (by omega)] at *
  repeat (first|refine ah ?_|refine aF ?_|refine ag ?_|refine az ?_|refine aG ?_|refine bz (by rfl) ?_|refine au ?_|refine ak ?_|refine ae ?_|refine aA ?_)
  refine ay ?_
  refine .inl ⟨fun k=>?_,rfl⟩
  by_cases hk:k < nd.length
  ·exact hok k hk
  ·rw [List.getD_eq_getElem?_getD,List.getElem?_eq_none (by omega)];simp
end Go.Proofs.Yteamkjblpglliaa
