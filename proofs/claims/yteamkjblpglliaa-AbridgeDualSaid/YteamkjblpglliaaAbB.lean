import Derived.Test.YteamkjblpglliaaAbA
set_option linter.unusedSimpArgs false
set_option linter.unusedVariables false
namespace Go.Proofs.Yteamkjblpglliaa
open Go.RowKit Go.SL Go.HL
theorem WOK.zeros (n:Nat):WOK (List.replicate n 0):=fun i=>by
 rw [List.getD_eq_getElem?_getD,List.getElem?_replicate]
 split<;>simp
theorem Pb.wany {W C:List Int} {nd:List (List Nat)} {B:Int} (h:Pb W C nd B):W.any (fun n=>!(decide (0<=n)&&decide (n<=1048576)))=false:=by
 rw [List.any_eq_false]
 intro x hx
 obtain ⟨i,hi,rfl⟩:=List.getElem_of_mem hx
 have:=h.w i
 rw [List.getD_eq_getElem?_getD,List.getElem?_eq_getElem hi,Option.getD_some] at this
 simp [this.1,this.2]
theorem Pb.cany {W C:List Int} {nd:List (List Nat)} {B:Int} (h:Pb W C nd B):C.any (fun n=>!(decide (0<=n)&&decide (n<=1048576)))=false:=by
 rw [List.any_eq_false]
 intro x hx
 obtain ⟨i,hi,rfl⟩:=List.getElem_of_mem hx
 have:=h.c i
 rw [List.getD_eq_getElem?_getD,List.getElem?_eq_getElem hi,Option.getD_some] at this
 simp [this.1,this.2]
set_option maxHeartbeats 4000000 in
theorem og {W C:List Int} {nd:List (List Nat)} {B:Int} (h:Pb W C nd B):HT Try.prog 34 [.agg (jD W C nd B)] (fun r=>r=.bool true):=by
 have hsz:=h.g.size
 have hlw:=h.lw
 have hlc:=h.lc
 have hB:=h.b
 have hnl:(nd.map nl).length=nd.length:=by simp
 have hrl:(List.replicate nd.length (0:Int)).length=nd.length:=by simp
 have hwi:=jK B 0 268435456
 rw [decide_eq_true hB.1,decide_eq_true hB.2] at hwi
 have hcv:=(zN (List.replicate nd.length 0) (nd.map nl) (by omega) (by simp;omega) (fun i=>by rw [dM,fH];have:=h.g.len i;omega)).mono (K':=fun r=>r=.bool true) (by
  rintro _ ⟨b,rfl,hb⟩
  rw [hb.2 (VW.of h.g (WOK.zeros _) (by simp))])
 have ha1:=G8 W 56 _ (by omega) (fun x _=>yg x)
 have ha2:=G8 C 56 _ (by omega) (fun x _=>yg x)
 rw [h.wany,I,hlw] at ha1
 rw [h.cany,I,hlc] at ha2
 simp only [I,Gs,List.length_replicate,hnl] at hcv
 refine HT.of rfl aep (Nat.le_of_ble_eq_true rfl) ?_
 unfold c34
 simp only [I,Gs,jD,aP,Nat.reduceAdd,hlw,hlc,hnl]
 refine ak ?_
 refine ae ?_
 repeat (first|refine ah ?_|refine ag ?_|refine dX ?_)
 refine ak ?_
 refine ae ?_
 repeat (first|refine ah ?_|refine aH ?_|refine ag ?_|refine aF ?_|refine aC ?_)
 refine ak ?_
 refine ae ?_
 repeat (first|refine ah ?_|refine ag ?_)
 refine ak ?_
 refine bQ bi bi (fun f _ r=>r=.bool (f != 52)) ?_
 repeat (first|refine ah ?_|refine aG ?_|refine aH ?_|refine aY ?_|refine aK ?_|refine aF ?_|refine aC ?_)
 refine bG aJ dI hwi ⟨_,rfl,rfl⟩ ?_
 rintro _ rfl -
 refine ⟨dE,_,_,_,_,_,dw,(by decide),aQ,?_⟩
 repeat (first|refine ah ?_|refine aG ?_|refine aH ?_|refine aK ?_|refine aC ?_|refine ku gU (by rfl) (by omega) bW bW ?_)
 refine bG aJ dI hcv ⟨_,rfl,rfl⟩ ?_
 rintro _ rfl -
 refine ⟨dE,_,_,_,_,_,dw,(by decide),aQ,?_⟩
 repeat (first|refine ah ?_|refine aG ?_|refine aH ?_|refine aK ?_|refine aC ?_)
 refine bG aJ dI ha1 ⟨_,rfl,rfl⟩ ?_
 rintro _ rfl -
 refine ⟨dE,_,_,_,_,_,dw,(by decide),aQ,?_⟩
 repeat (first|refine ah ?_|refine aG ?_|refine aH ?_|refine aK ?_|refine gZ (by rfl) ?_|refine aC ?_)
 refine bG aJ dI ha2 ⟨_,rfl,rfl⟩ ?_
 rintro _ rfl -
 refine ⟨dE,_,_,_,_,_,dw,(by decide),aQ,?_⟩
 repeat (first|refine ah ?_|refine aG ?_|refine ag ?_|refine aK ?_|refine gZ (by rfl) ?_)
 refine ay ?_
 rfl
set_option maxHeartbeats 4000000 in
theorem qZ {W C:List Int} {nd:List (List Nat)} {B:Int} (h:Pb W C nd B):HT Try.prog 36 [.agg (jD W C nd B)] (fun r=>r=.bool true):=by
 have hsz:=h.g.size
 have hlw:=h.lw
 have hlc:=h.lc
 have hB:=h.b
 have hnl:(nd.map nl).length=nd.length:=by simp
 have hrl:(List.replicate nd.length (0:Int)).length=nd.length:=by simp
 have hcv:=(qH (List.replicate nd.length 0) (nd.map nl) (by omega) (by simp;omega) (fun i=>by rw [dM,fH];have:=h.g.len i;omega)).mono (K':=fun r=>r=.bool true) (by
  rintro _ ⟨b,rfl,hb⟩
  rw [hb.2 (VW.of h.g (WOK.zeros _) (by simp))])
 simp only [I,Gs,List.length_replicate,hnl] at hcv
 refine HT.of rfl afm (Nat.le_of_ble_eq_true rfl) ?_
 unfold c36
 simp only [I,Gs,jD,aP,Nat.reduceAdd,hlw,hlc,hnl]
 repeat (first|refine ah ?_|refine aG ?_|refine aH ?_|refine ag ?_|refine az ?_|refine aW ?_|refine aI ?_|refine aF ?_|refine au ?_|refine ak ?_|refine ae ?_|refine aB ?_|refine aA ?_|refine bn ?_|refine aC ?_|refine dX ?_)
 refine bD [1,2,3,4] (fun i:Nat=>i<=nd.length) (fun i=>⟨[(1,.pref 0 [] 0),(2,.bool false),(3,.int .i64 nd.length),(4,.int .i64 i)],[(0,.optr [.sl nd.length (HL.ints W),.sl nd.length (HL.ints C),.sl nd.length (aZ (nd.map nl)),.int .i64 B])],1⟩) (fun i=>nd.length - i) 0 (by omega) rfl ?_
 intro i hi
 by_cases hil:i<nd.length
 ·have hw:=h.w i
  have hc:=h.c i
  obtain ⟨x,hx⟩:∃x,W.getD i 0=x:=⟨_,rfl⟩
  obtain ⟨y,hy⟩:∃x,C.getD i 0=x:=⟨_,rfl⟩
  rw [hx] at hw
  rw [hy] at hc
  repeat (first|refine ah ?_|refine aG ?_|refine aN ?_|refine bK (by rfl) aT (by (try simp (disch:=omega) only [go_sem,hx,hy]);try rfl) ?_|refine gJ (by rfl) dm (by (try simp (disch:=omega) only [go_sem,reduceIte,Nat.reduceEqDiff,Nat.reduceAdd,Nat.reduceMul,hx,hy]);try rfl) aT (by (try simp (disch:=omega) only [go_sem,hx,hy]);try rfl) fP ?_|refine ag ?_|refine az ?_|refine aI ?_|refine di (by rfl) (by rfl) (by (try simp (disch:=omega) only [go_sem,Int.reduceAdd,Int.reduceSub,Int.reduceMul,hx,hy]);try rfl) ?_|refine ax ?_|refine au ?_|refine ak ?_|refine ae ?_|refine aB ?_|refine dh ?_|refine aA ?_|refine bn ?_|refine aC ?_)
  exact bJ [1,2,3,4] (i+1) hil (by omega) rfl
 ·obtain rfl:i=nd.length:=by omega
  repeat (first|refine ah ?_|refine ag ?_|refine az ?_|refine aO ?_|refine au ?_|refine ak ?_|refine ae ?_)
  refine bQ bi bi (fun _ _ r=>r=.bool true) ?_
  repeat (first|refine ah ?_|refine aH ?_|refine aC ?_|refine ku gU (by rfl) (by omega) bW bW ?_)
  refine bG aJ dI hcv ⟨_,rfl,rfl⟩ ?_
  rintro _ rfl -
  refine ⟨dE,_,_,_,_,_,dw,(by decide),aQ,?_⟩
  repeat (first|refine ah ?_|refine ag ?_)
  refine ay ?_
  rfl
def gB (W C:List Int) (num den:Int):List Int:=(List.range W.length).map fun i=>den*W.getD i 0 - num*C.getD i 0
theorem mV (W C:List Int) (num den:Int):(gB W C num den).length=W.length:=by simp [gB]
theorem uY (W C:List Int) (num den:Int) {i:Nat} (h:i<W.length):(gB W C num den).getD i 0=den*W.getD i 0 - num*C.getD i 0:=by simp [gB,h]
def Mul (num den:Int):Prop:=(0<=num/\num<=1048576)/\1<=den/\den<=1048576
theorem vC {a b:Int} (h1:0<=a) (h2:a<=1048576) (h3:0<=b) (h4:b<=1048576):0<=a*b/\a*b<=1099511627776:=by
 refine ⟨Int.mul_nonneg h1 h3,?_⟩
 have:=Int.mul_le_mul h2 h4 h3 (by omega:(0:Int)<=1048576)
 omega
theorem LD (L:List Int) {i:Nat} (h:i<L.length):(L.take i++List.replicate (L.length - i) 0).set i (L.getD i 0)=L.take (i+1)++List.replicate (L.length - (i+1)) 0:=by
 rw [cO L i 0 h,show L.length - i=(L.length - (i+1))+1 by omega,List.replicate_succ,List.append_assoc]
 rw [List.set_append_right _ _ (by simp;omega)]
 simp [Nat.min_eq_left (Nat.le_of_lt h)]
theorem La (L:List Int) {i:Nat} (h:i<L.length):(L.take (i+1)++List.replicate (L.length - (i+1)) 0).getD i 0=L.getD i 0:=by
 rw [List.getD_eq_getElem?_getD,List.getElem?_append_left (by simp;omega),List.getElem?_take_of_lt (by omega),List.getD_eq_getElem?_getD]
def WtR (e:Int) (W C:List Int) (num den:Int) (n:Nat) (ok er:HV) (r:HV):Prop:=(WOK (gB W C num den)/\r=.tup [.osl 1 n (HL.ints (gB W C num den)),ok])\/(¬ WOK (gB W C num den)/\r=.tup [.osl 1 0 [],er])
set_option maxHeartbeats 4000000 in
theorem uj {W C:List Int} {nd:List (List Nat)} {B:Int} (h:Pb W C nd B) (num den:Int) (hm:Mul num den):HT Try.prog 46 [.agg (jD W C nd B),.int .i64 num,.int .i64 den] (WtR 0 W C num den nd.length (.int .i64 0) (.int .i64 5)):=by
 have hsz:=h.g.size
 have hlw:=h.lw
 have hlc:=h.lc
 have hB:=h.b
 obtain ⟨hnum,hden⟩:=hm
 have hnl:(nd.map nl).length=nd.length:=by simp
 have hL:=mV W C num den
 rw [hlw] at hL
 refine HT.of rfl adK (Nat.le_of_ble_eq_true rfl) ?_
 unfold c46
 simp only [I,Gs,jD,aP,Nat.reduceAdd,hlw,hlc,hnl]
 repeat (first|refine ah ?_|refine ag ?_|refine ak ?_|refine ae ?_|refine eU rfl (by rfl) gU ?_|refine dX ?_)
 refine bf aJ dI (jK num 0 1048576) ?_
 rintro _ rfl
 rw [decide_eq_true hnum.1,decide_eq_true hnum.2]
 refine ⟨dE,_,_,_,_,_,dw,(by decide),aQ,?_⟩
 repeat (first|refine ah ?_|refine aG ?_|refine dR (by rfl) ?_)
 refine bf aJ dI (jK den 1 1048576) ?_
 rintro _ rfl
 rw [decide_eq_true hden.1,decide_eq_true hden.2]
 refine ⟨dE,_,_,_,_,_,dw,(by decide),aQ,?_⟩
 repeat (first|refine ah ?_|refine aG ?_|refine aH ?_|refine ag ?_|refine aI ?_|refine eH (by rfl) ?_|refine aF ?_|refine au ?_|refine ak ?_|refine ae ?_|refine aB ?_|refine aA ?_|refine dR (by rfl) ?_|refine aC ?_|refine ku gU (by rfl) (by omega) bW bW ?_)
 refine bD [1,2,3,8,22,23,24] (fun i:Nat=>i<=nd.length/\∀k,k<i -> -2147483648<=(gB W C num den).getD k 0/\(gB W C num den).getD k 0<=2147483648) (fun i=>⟨[(1,.int .i64 num),(2,.int .i64 den),(3,.pref 0 [] 0),(8,.ref 1 [] 1 0 nd.length),(22,.ref 1 [] 1 0 nd.length),(23,.int .i64 nd.length),(24,.int .i64 i)],[(0,.optr [.sl nd.length (HL.ints W),.sl nd.length (HL.ints C),.sl nd.length (aZ (nd.map nl)),.int .i64 B]),(1,.osl 1 nd.length (HL.ints ((gB W C num den).take i++List.replicate ((gB W C num den).length - i) 0)))],2⟩) (fun i=>nd.length - i) 0 ⟨by omega,by omega⟩ (by rw [List.take_zero,List.nil_append,Nat.sub_zero,hL];rfl) ?_
 rintro i ⟨hi,hok⟩
 by_cases hil:i<nd.length
 ·have hw:=h.w i
  have hc:=h.c i
  have hg:=uY W C num den (i:=i) (by omega)
  have b1:=vC (a:=den) (b:=W.getD i 0) (by omega) (by omega) hw.1 hw.2
  have b2:=vC (a:=num) (b:=C.getD i 0) (by omega) (by omega) hc.1 hc.2
  have hsp:=LD (gB W C num den) (i:=i) (by omega)
  have hpg:=La (gB W C num den) (i:=i) (by omega)
  obtain ⟨x,hx⟩:∃x,W.getD i 0=x:=⟨_,rfl⟩
  obtain ⟨y,hy⟩:∃x,C.getD i 0=x:=⟨_,rfl⟩
  rw [hx] at hw b1 hg
  rw [hy] at hc b2 hg
  rw [hg] at hsp hpg
  rw [<- hsp] at hpg
  have hend:=hsp
  generalize hL0:(gB W C num den).take i++List.replicate ((gB W C num den).length - i) 0=L0 at *
  have hL0l:L0.length=nd.length:=by rw [<- hL0];simp;omega
  have hsl:(L0.set i (den*x - num*y)).length=nd.length:=by simp [hL0l]
  repeat (first|refine ah ?_|refine ag ?_|refine az ?_|refine ax ?_|refine ak ?_|refine ae ?_|refine aB ?_|refine aA ?_)
  refine bQ bi bi (fun _ _ _=>False) ?_
  repeat (first|refine ah ?_|refine aN ?_|refine bY ?_|refine bK (by rfl) aT (by (try simp (disch:=omega) only [go_sem,hx,hy,hpg]);try rfl) ?_|refine gJ (by rfl) dm (by (try simp (disch:=omega) only [go_sem,reduceIte,Nat.reduceEqDiff,Nat.reduceAdd,Nat.reduceMul,hx,hy,hpg]);try rfl) aT (by (try simp (disch:=omega) only [go_sem,hx,hy,hpg]);try rfl) fP ?_|refine ag ?_|refine ak ?_|refine ae ?_|refine ik (by rfl) (by rfl) (by (try simp (disch:=omega) only [go_sem,Int.reduceAdd,Int.reduceSub,Int.reduceMul,hx,hy,hpg]);try rfl) ?_|refine lg (by rfl) (by rfl) (by (try simp (disch:=omega) only [go_sem,Int.reduceAdd,Int.reduceSub,Int.reduceMul,hx,hy,hpg]);try rfl) ?_|refine aC ?_|refine yU (by rfl) fP bW qp (by rfl) (by decide) dm bW aT (by (try simp (disch:=omega) only [go_sem,hx,hy,hpg]);try rfl) bW ?_)
  refine bf aJ dI (jK (den*x - num*y) (-2147483648) 2147483648) ?_
  rintro _ rfl
  refine ⟨dE,_,_,_,_,_,dw,(by decide),aQ,?_⟩
  by_cases hin : -2147483648<=den*x - num*y/\den*x - num*y<=2147483648
  ·rw [decide_eq_true hin.1,decide_eq_true hin.2]
   repeat (first|refine ah ?_|refine ag ?_|refine bz ?_|refine au ?_|refine ae ?_|refine dh ?_|refine aA ?_|refine dR (by rfl) ?_)
   refine bJ [1,2,3,8,22,23,24] (i+1) ⟨hil,fun k hk=>?_⟩ (by omega) (by rw [hend];rfl)
   by_cases hki:k<i
   ·exact hok k hki
   ·obtain rfl:k=i:=by omega
    rw [hg];exact hin
  ·have hf:(decide (-2147483648<=den*x - num*y)&&decide (den*x - num*y<=2147483648))=false:=by
    simp only [Bool.and_eq_false_iff,decide_eq_false_iff_not]
    omega
   rw [hf]
   repeat (first|refine ah ?_|refine ag ?_|refine ax ?_|refine ak ?_|refine ae ?_|refine eU rfl (by rfl) gU ?_|refine gZ (by rfl) ?_)
   refine ay ?_
   refine .inr ⟨fun hk=>hin ?_,rfl⟩
   have:=hk i
   rw [hg] at this
   exact this
 ·obtain rfl:i=nd.length:=by omega
  have he:(gB W C num den).take nd.length++List.replicate ((gB W C num den).length - nd.length) 0=gB W C num den:=by
   rw [hL,List.take_of_length_le (l:=gB W C num den) (by omega)];simp
  rw [he]
  repeat (first|refine ah ?_|refine ag ?_|refine az ?_|refine aO ?_|refine au ?_|refine ak ?_|refine ae ?_)
  refine ay ?_
  refine .inl ⟨fun k=>?_,rfl⟩
  by_cases hk:k<nd.length
  ·exact hok k hk
  ·rw [List.getD_eq_getElem?_getD,List.getElem?_eq_none (by omega)];simp
set_option maxHeartbeats 4000000 in
theorem qR {W C:List Int} {nd:List (List Nat)} {B:Int} (h:Pb W C nd B) (num den:Int) (hm:¬ Mul num den):HT Try.prog 46 [.agg (jD W C nd B),.int .i64 num,.int .i64 den] (fun r=>r=.tup [.osl 1 0 [],.int .i64 1]):=by
 have hsz:=h.g.size
 have hlw:=h.lw
 have hlc:=h.lc
 have hnl:(nd.map nl).length=nd.length:=by simp
 refine HT.of rfl adK (Nat.le_of_ble_eq_true rfl) ?_
 unfold c46
 simp only [I,Gs,jD,aP,Nat.reduceAdd,hlw,hlc,hnl]
 repeat (first|refine ah ?_|refine ag ?_|refine ak ?_|refine ae ?_|refine eU rfl (by rfl) gU ?_|refine dX ?_)
 refine bf aJ dI (jK num 0 1048576) ?_
 rintro _ rfl
 refine ⟨dE,_,_,_,_,_,dw,(by decide),aQ,?_⟩
 by_cases hn:0<=num/\num<=1048576
 ·have hd:(decide (1<=den)&&decide (den<=1048576))=false:=by
   simp only [Bool.and_eq_false_iff,decide_eq_false_iff_not]
   unfold Mul at hm
   omega
  rw [decide_eq_true hn.1,decide_eq_true hn.2]
  repeat (first|refine ah ?_|refine aG ?_|refine dR (by rfl) ?_)
  refine bf aJ dI (jK den 1 1048576) ?_
  rintro _ rfl
  rw [hd]
  refine ⟨dE,_,_,_,_,_,dw,(by decide),aQ,?_⟩
  repeat (first|refine ah ?_|refine aG ?_|refine ag ?_|refine aI ?_|refine ax ?_|refine ak ?_|refine ae ?_|refine eU rfl (by rfl) gU ?_|refine gZ (by rfl) ?_)
  refine ay ?_
  rfl
 ·have hd:(decide (0<=num)&&decide (num<=1048576))=false:=by
   simp only [Bool.and_eq_false_iff,decide_eq_false_iff_not]
   omega
  rw [hd]
  repeat (first|refine ah ?_|refine bZ ?_|refine ag ?_|refine aK ?_|refine ax ?_|refine ak ?_|refine ae ?_|refine eU rfl (by rfl) gU ?_|refine gZ (by rfl) ?_)
  refine ay ?_
  rfl
set_option maxHeartbeats 4000000 in
theorem Ce (num den:Int):HT Try.prog 37 [.int .i64 num,.int .i64 den] (fun r=>∃b,r=.bool b/\(b=true <-> Mul num den)):=by
 unfold Mul
 refine HT.of rfl aeu (Nat.le_of_ble_eq_true rfl) ?_
 unfold c37
 simp only [aP,Nat.reduceAdd]
 by_cases h1:0<=num
 ·by_cases h2:num<=1048576
  ·by_cases h3:1<=den
   ·by_cases h4:den<=1048576
    ·repeat (first|refine ah ?_|refine aG ?_|refine ag ?_|refine aK ?_|refine ak ?_|refine ae ?_|refine dU ?_|refine dG ?_)
     refine ay ?_
     exact ⟨true,rfl,by simp [h1,h2,h3,h4]⟩
    ·repeat (first|refine ah ?_|refine aG ?_|refine ag ?_|refine aK ?_|refine ak ?_|refine ae ?_|refine dU ?_|refine dG ?_)
     refine ay ?_
     exact ⟨false,rfl,by simp [h1,h2,h3,h4]⟩
   ·repeat (first|refine ah ?_|refine aG ?_|refine bZ ?_|refine ag ?_|refine aK ?_|refine aI ?_|refine ak ?_|refine ae ?_|refine dU ?_|refine dG ?_)
    refine ay ?_
    exact ⟨false,rfl,by simp [h1,h2,h3]⟩
  ·repeat (first|refine ah ?_|refine aG ?_|refine bZ ?_|refine ag ?_|refine aK ?_|refine aI ?_|refine ak ?_|refine ae ?_|refine dU ?_|refine dG ?_)
   refine ay ?_
   exact ⟨false,rfl,by simp [h1,h2]⟩
 ·repeat (first|refine ah ?_|refine bZ ?_|refine ag ?_|refine aI ?_|refine ak ?_|refine ae ?_|refine dG ?_)
  refine ay ?_
  exact ⟨false,rfl,by simp [h1]⟩
set_option maxHeartbeats 4000000 in
theorem nJ {W C:List Int} {nd:List (List Nat)} {B:Int} (h:Pb W C nd B) (num den:Int) (hm:Mul num den):HT Try.prog 13 [.agg (jD W C nd B),.int .i64 num,.int .i64 den] (WtR 0 W C num den nd.length (.bool true) (.bool false)):=by
 have hsz:=h.g.size
 have hlw:=h.lw
 have hlc:=h.lc
 obtain ⟨hnum,hden⟩:=hm
 have hnl:(nd.map nl).length=nd.length:=by simp
 have hL:=mV W C num den
 rw [hlw] at hL
 refine HT.of rfl afp (Nat.le_of_ble_eq_true rfl) ?_
 unfold c13
 simp only [I,Gs,jD,aP,Nat.reduceAdd,hlw,hlc,hnl]
 repeat (first|refine ah ?_|refine ag ?_|refine ak ?_|refine ae ?_|refine aB ?_|refine eU rfl (by rfl) gU ?_|refine dX ?_)
 refine bD [1,2,3,8,9] (fun i:Nat=>i<=nd.length/\∀k,k<i -> -2147483648<=(gB W C num den).getD k 0/\(gB W C num den).getD k 0<=2147483648) (fun i=>⟨[(1,.int .i64 num),(2,.int .i64 den),(3,.pref 0 [] 0),(8,.ref 1 [] 1 0 i),(9,.int .i64 i)],[(0,.optr [.sl nd.length (HL.ints W),.sl nd.length (HL.ints C),.sl nd.length (aZ (nd.map nl)),.int .i64 B]),(1,.osl 1 i (HL.ints ((gB W C num den).take i)))],2⟩) (fun i=>nd.length - i) 0 ⟨by omega,by omega⟩ rfl ?_
 rintro i ⟨hi,hok⟩
 have htl:((gB W C num den).take i).length=i:=by simp;omega
 by_cases hil:i<nd.length
 ·have hw:=h.w i
  have hc:=h.c i
  have hg:=uY W C num den (i:=i) (by omega)
  have b1:=vC (a:=den) (b:=W.getD i 0) (by omega) (by omega) hw.1 hw.2
  have b2:=vC (a:=num) (b:=C.getD i 0) (by omega) (by omega) hc.1 hc.2
  have hts:=cO (gB W C num den) i 0 (by omega)
  obtain ⟨x,hx⟩:∃x,W.getD i 0=x:=⟨_,rfl⟩
  obtain ⟨y,hy⟩:∃x,C.getD i 0=x:=⟨_,rfl⟩
  rw [hx] at hw b1 hg
  rw [hy] at hc b2 hg
  rw [hg] at hts
  repeat (first|refine ah ?_|refine aH ?_|refine ag ?_|refine az ?_|refine aF ?_|refine ax ?_|refine ak ?_|refine ae ?_|refine aB ?_|refine aA ?_|refine aC ?_)
  refine bQ bi bi (fun _ _ _=>False) ?_
  by_cases h1:den*x - num*y < -2147483648
  ·repeat (first|refine ah ?_|refine bZ ?_|refine aN ?_|refine bK (by rfl) aT (by (try simp (disch:=omega) only [go_sem,hx,hy]);try rfl) ?_|refine gJ (by rfl) dm (by (try simp (disch:=omega) only [go_sem,reduceIte,Nat.reduceEqDiff,Nat.reduceAdd,Nat.reduceMul,hx,hy]);try rfl) aT (by (try simp (disch:=omega) only [go_sem,hx,hy]);try rfl) fP ?_|refine ag ?_|refine az ?_|refine aK ?_|refine ax ?_|refine ak ?_|refine ae ?_|refine eU rfl (by rfl) gU ?_|refine ik (by rfl) (by rfl) (by (try simp (disch:=omega) only [go_sem,Int.reduceAdd,Int.reduceSub,Int.reduceMul,hx,hy]);try rfl) ?_|refine lg (by rfl) (by rfl) (by (try simp (disch:=omega) only [go_sem,Int.reduceAdd,Int.reduceSub,Int.reduceMul,hx,hy]);try rfl) ?_|refine aC ?_)
   refine ay ?_
   refine .inr ⟨fun hk=>?_,rfl⟩
   have:=hk i
   rw [hg] at this
   omega
  ·by_cases h2:den*x - num*y>2147483648
   ·repeat (first|refine ah ?_|refine aG ?_|refine aN ?_|refine bK (by rfl) aT (by (try simp (disch:=omega) only [go_sem,hx,hy]);try rfl) ?_|refine gJ (by rfl) dm (by (try simp (disch:=omega) only [go_sem,reduceIte,Nat.reduceEqDiff,Nat.reduceAdd,Nat.reduceMul,hx,hy]);try rfl) aT (by (try simp (disch:=omega) only [go_sem,hx,hy]);try rfl) fP ?_|refine ag ?_|refine az ?_|refine aI ?_|refine ax ?_|refine ak ?_|refine ae ?_|refine eU rfl (by rfl) gU ?_|refine ik (by rfl) (by rfl) (by (try simp (disch:=omega) only [go_sem,Int.reduceAdd,Int.reduceSub,Int.reduceMul,hx,hy]);try rfl) ?_|refine lg (by rfl) (by rfl) (by (try simp (disch:=omega) only [go_sem,Int.reduceAdd,Int.reduceSub,Int.reduceMul,hx,hy]);try rfl) ?_|refine bn ?_|refine aC ?_)
    refine ay ?_
    refine .inr ⟨fun hk=>?_,rfl⟩
    have:=hk i
    rw [hg] at this
    omega
   ·repeat (first|refine ah ?_|refine aG ?_|refine aN ?_|refine bK (by rfl) aT (by (try simp (disch:=omega) only [go_sem,hx,hy]);try rfl) ?_|refine gJ (by rfl) dm (by (try simp (disch:=omega) only [go_sem,reduceIte,Nat.reduceEqDiff,Nat.reduceAdd,Nat.reduceMul,hx,hy]);try rfl) aT (by (try simp (disch:=omega) only [go_sem,hx,hy]);try rfl) fP ?_|refine ag ?_|refine az ?_|refine aI ?_|refine di (by rfl) (by rfl) (by (try simp (disch:=omega) only [go_sem,Int.reduceAdd,Int.reduceSub,Int.reduceMul,hx,hy]);try rfl) ?_|refine au ?_|refine ak ?_|refine ae ?_|refine dh ?_|refine aA ?_|refine ik (by rfl) (by rfl) (by (try simp (disch:=omega) only [go_sem,Int.reduceAdd,Int.reduceSub,Int.reduceMul,hx,hy]);try rfl) ?_|refine lg (by rfl) (by rfl) (by (try simp (disch:=omega) only [go_sem,Int.reduceAdd,Int.reduceSub,Int.reduceMul,hx,hy]);try rfl) ?_|refine bn ?_|refine aC ?_|refine dF ?_|refine jq gU (by rfl) fP AY (by (try simp (disch:=omega) only [go_sem,reduceIte,Nat.reduceEqDiff,Nat.reduceAdd,Nat.reduceMul,hx,hy]);try omega) dm (by (try simp (disch:=omega) only [go_sem,reduceIte,Nat.reduceEqDiff,Nat.reduceAdd,Nat.reduceMul,hx,hy]);try rfl) gU (by omega) jT aT (by (try simp (disch:=omega) only [go_sem,reduceIte,Nat.reduceEqDiff,Nat.reduceAdd,Nat.reduceMul,hx,hy]);try rfl) bW ?_)
    refine bJ [1,2,3,8,9] (i+1) ⟨hil,fun k hk=>?_⟩ (by omega) (by rw [hts];rfl)
    by_cases hki:k<i
    ·exact hok k hki
    ·obtain rfl:k=i:=by omega
     rw [hg];omega
 ·obtain rfl:i=nd.length:=by omega
  rw [List.take_of_length_le (l:=gB W C num den) (by omega)] at *
  repeat (first|refine ah ?_|refine aH ?_|refine ag ?_|refine az ?_|refine aF ?_|refine aO ?_|refine au ?_|refine ak ?_|refine ae ?_|refine aC ?_)
  refine ay ?_
  refine .inl ⟨fun k=>?_,rfl⟩
  by_cases hk:k<nd.length
  ·exact hok k hk
  ·rw [List.getD_eq_getElem?_getD,List.getElem?_eq_none (by omega)];simp
end Go.Proofs.Yteamkjblpglliaa
