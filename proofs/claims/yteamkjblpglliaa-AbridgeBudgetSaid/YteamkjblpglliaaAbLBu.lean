import Derived.Test.YteamkjblpglliaaCodesAbridgeBudget
import Derived.Test.YteamkjblpglliaaAbP
set_option linter.unusedSimpArgs false
set_option linter.unusedVariables false
namespace Go.Proofs.Yteamkjblpglliaa
open Go.RowKit Go.SL Go.HL
theorem CW (l:List Int) (hl:l.length<=9223372036854775807) (hr:∀k,k < l.length -> -9223372036854775808<=l.getD k 0/\l.getD k 0<=9223372036854775807):HT Try.prog 9 [I l] (fun r=>∃W C nd B,Pb W C nd B/\nd.length<=9/\B < 40/\r=.agg (jX W C nd B)):=by
 refine wz l hl hr _ fun W C nd i B hP hn hB=>?_
 have hWl:=hP.lw
 have hCl:=hP.lc
 have hnl:=hP.ln
 unfold U0
 have hE:(stripL (HL.ints W),stripL (HL.ints C),stripL (gm nd))=(HL.ints W,HL.ints C,bf (nd.map nl)):=by rw [HL.ints_strip,HL.ints_strip,ng]
 refine kF 1 [2,4] (⟨[(2,.pref 0 [] 0),(4,.ptr [.sl i (HL.ints W),.sl i (HL.ints C),.sl i (bf (nd.map nl)),.int .i64 B] 0)],[(0,.optr [.nils,.nils,.nils,.int .i64 0])],1⟩:St) (congrArg (fun p:List HV×List HV×List HV=>(⟨[(2,.pref 0 [] 0),(4,.ptr [.sl i p.1,.sl i p.2.1,.sl i p.2.2,.int .i64 B] 0)],[(0,.optr [.nils,.nils,.nils,.int .i64 0])],1⟩:St)) hE) ?_
 repeat (first|refine ag ?_|refine ak ?_|refine ae ?_|refine Af (by rfl) aV He ?_|refine dh ?_)
 refine ay ?_
 refine ⟨_,_,rfl,rfl,W,C,nd,B,hP.pb (by omega) hB,by omega,by omega,?_⟩
 unfold jX I Gs
 rw [hWl,hCl,List.length_map,hnl]
 rfl
theorem Pb.budget {W C:List Int} {nd:List (List Nat)} {B:Int} (h:Pb W C nd B) (B':Int) (h0:0<=B') (h1:B'<=268435456):Pb W C nd B':=⟨h.lw,h.lc,h.w,h.c,⟨h0,h1⟩,h.g⟩
theorem yE:∀k,gz (2 ^ k - 1) k=List.replicate k true
 | 0=>rfl
 | k+1=>by
  have h2:2 ^ (k+1)=2 * 2 ^ k:=by rw [Nat.pow_succ,Nat.mul_comm]
  have hp:=Nat.two_pow_pos k
  rw [gz,show (2 ^ (k+1) - 1) / 2=2 ^ k - 1 by omega,yE k,List.replicate_succ,decide_eq_true (show (2 ^ (k+1) - 1) % 2=1 by omega)]
theorem Fh {nd:List (List Nat)} {bad:List Bool} (g:Gr nd bad):dG nd (List.replicate nd.length true):=fun u _ j hj=>uh (g.lt u j hj)
theorem KA {w:List Int} (hw:∀i,0<=w.getD i 0) {n:Nat} {X:List Bool} (hX:X.length=n):wS w X n<=wS w (List.replicate n true) n:=xO hw (fun u hu=>by
 by_cases h:u < n
 ·exact uh h
 ·rw [List.getD_eq_getElem?_getD,List.getElem?_eq_none (by omega)] at hu;cases hu) n
def alD (n:Nat) (A:List Bool) (f0:FuncId):FuncId->List HV->HV->Prop:=fun f xs r=>if f=f0 then r=.osl 1 n (HL.bools A) else Bj n f xs r
theorem vV {n:Nat} {A:List Bool} {f0 f:FuncId} {L:List Int} {X:List Bool} {r:HV} (hne:f≠f0):alD n A f0 f [.sl n (HL.ints L),.sl n (HL.bools X)] r <-> r=.int .i64 (wS L X n):=by
 unfold alD;rw [if_neg hne]
 exact ⟨dP,fun h=>⟨L,X,rfl,h⟩⟩
set_option maxHeartbeats 16000000 in
theorem A7 (l:List Int) (more:Int) (hl:l.length<=9223372036854775807) (hr:∀k,k < l.length -> -9223372036854775808<=l.getD k 0/\l.getD k 0<=9223372036854775807) (hm : -9223372036854775808<=more/\more<=9223372036854775807):HT Try.prog 8 [I l,.int .i64 more] (fun r=>r=.bool true):=by
 refine HT.of rfl fc8 (Nat.le_of_ble_eq_true rfl) ?_
 unfold c8
 simp only [I,aO,Nat.reduceAdd]
 repeat (first|refine ah ?_|refine ag ?_|refine ak ?_|refine ae ?_)
 refine bg aK dO (CW l hl hr) ?_
 rintro _ ⟨W,C,nd,B,h,hn9,hB40,rfl⟩
 have hsz:=h.g.size
 have hlw:=h.lw
 have hlc:=h.lc
 have hB:=h.b
 have hnl:(nd.map nl).length=nd.length:=by simp
 have hso:=nV h 1024 (by omega) (by omega)
 simp only [jX,I,Gs,hlw,hlc,hnl] at hso ⊢
 refine ⟨dF,_,_,_,_,_,dA,(by decide),aQ,?_⟩
 repeat (first|refine ag ?_|refine ak ?_|refine ae ?_|refine bV ?_|refine dh ?_|refine gU gY ?_)
 refine bU aU aU (fun _ _ r=>∃y:Nat,r=.int .i64 y/\y < 30) ?_
 repeat (first|refine ah ?_|refine aF ?_|refine aA ?_)
 refine bF aK dO (jl more 30 (by omega) (by omega) hm.1 hm.2) ⟨.int .i64 (0:Nat),⟨0,rfl,by omega⟩,rfl⟩ ?_
 rintro _ ⟨y,rfl,hy⟩ -
 refine ⟨dF,_,_,_,_,_,dA,(by decide),aQ,?_⟩
 have h2:=h.budget (B+y) (by omega) (by omega)
 have hso2:=nV h2 1024 (by omega) (by omega)
 simp only [jX,I,Gs,hlw,hlc,hnl] at hso2
 repeat (first|refine ag ?_|refine bM ?_|refine ak ?_|refine ae ?_|refine aA ?_|refine bV ?_|refine iF ?_)
 refine bg aK dO (hso) ?_
 rintro _ ⟨s,b,rfl,hS⟩
 obtain rfl:b=true:=hS.enough (by omega) hn9
 unfold wP
 refine ⟨dF,_,_,_,_,_,dA,(by decide),aQ,?_⟩
 repeat (first|refine ah ?_|refine ag ?_|refine cu ?_|refine ak ?_|refine ae ?_|refine bV ?_|refine dh ?_|refine gU gY ?_)
 refine bg aK dO (hso2) ?_
 rintro _ ⟨s2,b,rfl,hS2⟩
 obtain rfl:b=true:=hS2.enough (by omega) hn9
 unfold wP
 refine ⟨dF,_,_,_,_,_,dA,(by decide),aQ,?_⟩
 repeat (first|refine ah ?_|refine ag ?_|refine cu ?_|refine dh ?_|refine gU gY ?_)
 refine dU [4,5,7,8,9,10] (⟨[(4,.bool false),(5,.pref 0 [] 0),(7,.pref 1 [] 0),(8,.int .i64 0),(9,.pref 2 [] 0),(10,.int .i64 0)],[(0,.optr [.sl nd.length (HL.ints W),.sl nd.length (HL.ints C),.sl nd.length (bf (nd.map nl)),.int .i64 B]),(1,.optr [.sl nd.length (HL.bools s.best),.int .i64 (wS W s.best nd.length),.int .i64 (wS C s.best nd.length),.int .i64 s.num,.int .i64 s.den,.sl s.flow.length (HL.ints s.flow),.int .i64 s.value,.bool true]),(2,.optr [.sl nd.length (HL.bools s2.best),.int .i64 (wS W s2.best nd.length),.int .i64 (wS C s2.best nd.length),.int .i64 s2.num,.int .i64 s2.den,.sl s2.flow.length (HL.ints s2.flow),.int .i64 s2.value,.bool true])],3⟩:St) rfl ?_
 obtain ⟨q,hq,hsu,hss,hq1,hq2⟩:=DD nd.length hn9
 have hset:=yl nd.length ((q:Int) - 1) (by omega) (by omega) (by omega)
 rw [show (q:Int) - 1=((2 ^ nd.length - 1:Nat):Int) by omega,Ld,yE,<- show (q:Int) - 1=((2 ^ nd.length - 1:Nat):Int) by omega] at hset
 obtain ⟨A,hA⟩:∃A,List.replicate nd.length true=A:=⟨_,rfl⟩
 have hal:A.length=nd.length:=by rw [<- hA];simp
 have hcA:dG nd A:=hA ▸ Fh h.g
 rw [hA] at hset
 have oC:=iR C A h.cok (by omega) (by omega)
 have oW:=iR W A h.wok (by omega) (by omega)
 simp only [I,Bl,hlw,hlc,hal] at oC oW
 have bC:=jU h.c A nd.length
 have bW:=jU h.w A nd.length
 obtain ⟨CA,hCA⟩:∃x,wS C A nd.length=x:=⟨_,rfl⟩
 obtain ⟨WA,hWA⟩:∃x,wS W A nd.length=x:=⟨_,rfl⟩
 rw [hCA] at bC
 rw [hWA] at bW
 have h3:=h.budget CA (by omega) (by omega)
 have hso3:=nV h3 0 (by omega) (by omega)
 have hw0:WOK (ik W C 0 1):=fun i=>by
  by_cases hi:i < W.length
  ·rw [oQ W C 0 1 hi]
   have:=h.w i
   omega
  ·rw [List.getD_eq_getElem?_getD,List.getElem?_eq_none (by rw [mQ];omega)];simp
 have hdu:=Bc h3 0 1 ⟨by omega,by omega⟩ hw0
 simp only [jX,I,Gs,hlw,hlc,hnl] at hso3 hdu
 repeat (first|refine ag ?_|refine ak ?_|refine ae ?_|refine bV ?_|refine dh ?_|refine gU gY ?_)
 refine bU aU aU (alD nd.length A 24) ?_
 repeat (first|refine gX (by rfl) dK (by (try simp (disch:=omega) only [go_sem,reduceIte,Nat.reduceEqDiff,Nat.reduceAdd,Nat.reduceMul,hss]);try rfl) aV (by (try simp (disch:=omega) only [go_sem,hss]);try rfl) gy ?_|refine aG ?_|refine ig (by rfl) (by rfl) (by (try simp (disch:=omega) only [go_sem,Int.reduceAdd,Int.reduceSub,Int.reduceMul,hss]);try rfl) ?_|refine G8 (by rfl) (by rfl) (by omega) (by (try simp (disch:=omega) only [go_sem,Int.reduceAdd,Int.reduceSub,Int.reduceMul,hss]);try rfl) ?_|refine aA ?_)
 refine bF aK dO (hset.mono fun r h=>h) ⟨_,rfl,uj _⟩ ?_
 rintro r hr -
 obtain rfl:r=.osl 1 nd.length (HL.bools A):=hr
 refine ⟨dF,_,_,_,_,_,dA,(by decide),aQ,?_⟩
 skip
 refine bF aK dO (oC.mono fun r h=>(vV (by decide)).2 h) ⟨_,(vV (by decide)).2 rfl,rfl⟩ ?_
 rintro r hr -
 obtain rfl:=(vV (by decide)).1 hr
 rw [hCA]
 refine ⟨dF,_,_,_,_,_,dA,(by decide),aQ,?_⟩
 repeat (first|refine ag ?_|refine ak ?_|refine ae ?_|refine aA ?_|refine bV ?_|refine iF ?_)
 refine bg aK dO (hso3) ?_
 rintro _ ⟨s3,b,rfl,hS3⟩
 obtain rfl:b=true:=hS3.all (by rw [hA];omega)
 unfold wP
 refine ⟨dF,_,_,_,_,_,dA,(by decide),aQ,?_⟩
 repeat (first|refine ah ?_|refine ag ?_|refine cu ?_|refine dh ?_|refine gU gY ?_)
 refine dU [4,5,7,8,9,10,11,12,13] (⟨[(4,.bool false),(5,.pref 0 [] 0),(7,.pref 1 [] 0),(8,.int .i64 0),(9,.pref 2 [] 0),(10,.int .i64 0),(11,.pref 3 [] 0),(12,.pref 4 [] 0),(13,.int .i64 0)],[(0,.optr [.sl nd.length (HL.ints W),.sl nd.length (HL.ints C),.sl nd.length (bf (nd.map nl)),.int .i64 B]),(1,.optr [.sl nd.length (HL.bools s.best),.int .i64 (wS W s.best nd.length),.int .i64 (wS C s.best nd.length),.int .i64 s.num,.int .i64 s.den,.sl s.flow.length (HL.ints s.flow),.int .i64 s.value,.bool true]),(2,.optr [.sl nd.length (HL.bools s2.best),.int .i64 (wS W s2.best nd.length),.int .i64 (wS C s2.best nd.length),.int .i64 s2.num,.int .i64 s2.den,.sl s2.flow.length (HL.ints s2.flow),.int .i64 s2.value,.bool true]),(3,.optr [.sl nd.length (HL.ints W),.sl nd.length (HL.ints C),.sl nd.length (bf (nd.map nl)),.int .i64 CA]),(4,.optr [.sl nd.length (HL.bools s3.best),.int .i64 (wS W s3.best nd.length),.int .i64 (wS C s3.best nd.length),.int .i64 s3.num,.int .i64 s3.den,.sl s3.flow.length (HL.ints s3.flow),.int .i64 s3.value,.bool true])],5⟩:St) rfl ?_
 repeat (first|refine ak ?_|refine ae ?_|refine bV ?_)
 refine bg aK dO (hdu) ?_
 rintro _ ⟨fl,set,value,hD,rfl⟩
 simp only [I]
 refine ⟨dF,_,_,_,_,_,dA,(by decide),aQ,?_⟩
 repeat (first|refine ah ?_|refine ag ?_|refine cu ?_|refine ak ?_)
 refine bU aU aU (alD nd.length A 24) ?_
 repeat (first|refine gX (by rfl) dK (by (try simp (disch:=omega) only [go_sem,reduceIte,Nat.reduceEqDiff,Nat.reduceAdd,Nat.reduceMul,hss]);try rfl) aV (by (try simp (disch:=omega) only [go_sem,hss]);try rfl) gy ?_|refine aG ?_|refine ig (by rfl) (by rfl) (by (try simp (disch:=omega) only [go_sem,Int.reduceAdd,Int.reduceSub,Int.reduceMul,hss]);try rfl) ?_|refine G8 (by rfl) (by rfl) (by omega) (by (try simp (disch:=omega) only [go_sem,Int.reduceAdd,Int.reduceSub,Int.reduceMul,hss]);try rfl) ?_|refine aA ?_)
 refine bF aK dO (hset.mono fun r h=>h) ⟨_,rfl,uj _⟩ ?_
 rintro r hr -
 obtain rfl:r=.osl 1 nd.length (HL.bools A):=hr
 refine ⟨dF,_,_,_,_,_,dA,(by decide),aQ,?_⟩
 skip
 refine bF aK dO (oW.mono fun r h=>(vV (by decide)).2 h) ⟨_,(vV (by decide)).2 rfl,rfl⟩ ?_
 rintro r hr -
 obtain rfl:=(vV (by decide)).1 hr
 rw [hWA]
 refine ⟨dF,_,_,_,_,_,dA,(by decide),aQ,?_⟩
 have e1:wS W s.best nd.length<=wS W s2.best nd.length:=zU (hS2.best rfl s.best ⟨hS.sel.len,hS.sel.closed,by have:=hS.sel.cost;omega⟩)
 have e2:wS W s3.best nd.length=WA:=by
  have a1:=zU (hS3.best rfl A ⟨hal,hcA,by omega⟩)
  have a2:=hA ▸ KA (fun i=>(h.w i).1) hS3.sel.len
  omega
 have e3:l9 W C nd CA 0 1 (set.take nd.length)=WA:=by
  have a1:=hD.max.most _ hal hcA
  have a2:=hA ▸ KA (fun i=>(h.w i).1) hD.max.len
  rw [lL _ _ _ _ _ _ (by omega),lL _ _ _ _ _ _ (by omega)] at a1
  unfold l9
  rw [lL _ _ _ _ _ _ (by omega)]
  omega
 rw [e2,e3]
 repeat (first|refine ah ?_|refine aH ?_|refine aF ?_|refine ag ?_|refine aX ?_|refine aJ ?_|refine ak ?_|refine ae ?_|refine dE ?_|refine aA ?_)
 refine bg aK dO (ht_lives29) ?_
 rintro _ rfl
 refine ⟨dF,_,_,_,_,_,dA,(by decide),aQ,?_⟩
 repeat (first|refine ah ?_|refine ag ?_|refine aJ ?_)
 refine ay ?_
 rfl
end Go.Proofs.Yteamkjblpglliaa
