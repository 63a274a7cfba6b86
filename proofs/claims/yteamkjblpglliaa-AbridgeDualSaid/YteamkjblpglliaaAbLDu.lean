import Derived.Test.YteamkjblpglliaaCodesAbridgeDual
import Derived.Test.YteamkjblpglliaaAbP
import Derived.Test.YteamkjblpglliaaHlEx
import Derived.Test.YteamkjblpglliaaClClsd
set_option linter.unusedSimpArgs false
set_option linter.unusedVariables false
namespace Go.Proofs.Yteamkjblpglliaa
open Go.RowKit Go.SL Go.HL
theorem gm (l:List Int):ja (HL.ints l)=true:=by
 induction l with
 | nil=>rfl
 | cons x l ih=>show (true&&ja (HL.ints l))=true;rw [ih];rfl
theorem gu (l:List (List Int)):ja (aZ l)=true:=by
 induction l with
 | nil=>rfl
 | cons x l ih=>show (ja (HL.ints x)&&ja (aZ l))=true;rw [ih,gm];rfl
theorem BM (W C:List Int) (g:List (List Int)) (n:Nat) (B a b:Int):ja [.agg [.sl n (HL.ints W),.sl n (HL.ints C),.sl n (aZ g),.int .i64 B],.int .i64 a,.int .i64 b]=true:=by
 simp [ja,HV.rdb,gm,gu]
theorem Pb.raise {W C:List Int} {nd:List (List Nat)} {B:Int} (h:Pb W C nd B) (i j:Nat):Pb (W.set i 1048576) (C.set j 1048576) nd B :=
 ⟨by rw [List.length_set];exact h.lw,by rw [List.length_set];exact h.lc,fun k=>by
  rw [List.getD_eq_getElem?_getD,List.getElem?_set]
  split
  ·split<;>simp
  ·rw [<- List.getD_eq_getElem?_getD];exact h.w k,fun k=>by
  rw [List.getD_eq_getElem?_getD,List.getElem?_set]
  split
  ·split<;>simp
  ·rw [<- List.getD_eq_getElem?_getD];exact h.c k,h.b,h.g⟩
theorem Xn {w:List Int} {nd:List (List Nat)} {S b:List Bool} {M:Int} (hS:mO w nd S) (hB:Best w nd (2 ^ nd.length) b M):M=wS w S nd.length:=by
 obtain ⟨X,hX,hM⟩:=hB.some
 have h1:=hS.most X hX.len hX.closed
 obtain ⟨k,hk,he⟩:=rG S
 rw [hS.len] at hk he
 have h2:=hB.most S (.inr ⟨k,hk,he.symm,hS.closed⟩)
 omega
def TA (L:List (Int×Int)):List HV:=L.map fun q=>.sl 2 [.int .i64 q.1,.int .i64 q.2]
theorem Oh (L:List (Int×Int)) {i:Nat} (h:i<L.length):(TA L).getD i .dead=.sl 2 [.int .i64 (L.getD i (0,0)).1,.int .i64 (L.getD i (0,0)).2]:=by simp [TA,h]
set_option maxHeartbeats 16000000 in
theorem FM (l:List Int) (num den k:Int) (hl:l.length<=9223372036854775807) (hr:∀k,k<l.length -> -9223372036854775808<=l.getD k 0/\l.getD k 0<=9223372036854775807)
  (hnu : -9223372036854775808<=num/\num<=9223372036854775807) (hde : -9223372036854775808<=den/\den<=9223372036854775807) (hk : -9223372036854775808<=k/\k<=9223372036854775807) :
  HT Try.prog 3 [I l,.int .i64 num,.int .i64 den,.int .i64 k] (fun r=>r=.bool true):=by
 refine HT.of rfl fc3 (Nat.le_of_ble_eq_true rfl) ?_
 unfold c3
 simp only [I,aP,Nat.reduceAdd]
 repeat (first|refine ah ?_|refine ag ?_|refine ak ?_|refine ae ?_)
 refine bf aJ dI (CG l hl hr) ?_
 rintro _ ⟨W,C,nd,B,h,hn9,rfl⟩
 have hlw:=h.lw
 have hlc:=h.lc
 unfold O4
 refine ⟨dE,_,_,_,_,_,dw,(by decide),aQ,?_⟩
 apply uM (P:=Try.prog) (fun q:List Int×List Int=>(⟨[(1,.int .i64 num),(2,.int .i64 den),(9,.pref 0 [] 0)],[(0,.optr [.osl 1 nd.length (HL.ints q.1),.osl 1 nd.length (HL.ints q.2),.osl 1 nd.length (fZ nd),.int .i64 B])],1⟩:St)) (fun q=>Pb q.1 q.2 nd B)
 ·intro key
  repeat (first|refine ag ?_|refine dn ?_|refine iD gU ?_)
  refine ak ?_
  refine ak ?_
  refine ae ?_
  by_cases hn0:0<nd.length
  ·repeat (first|refine ah ?_|refine aG ?_|refine aH ?_|refine eH (by rfl) ?_|refine bn ?_|refine aC ?_)
   refine bf aJ dI (iZ k 3 (by omega) (by omega) hk.1 hk.2) ?_
   rintro _ ⟨y,rfl,hy⟩
   refine ⟨dE,_,_,_,_,_,dw,(by decide),aQ,?_⟩
   by_cases hy0:y=0
   ·subst hy0
    repeat (first|refine aG ?_|refine ag ?_|refine aY ?_|refine aK ?_)
    refine ax ?_
    refine ak ?_
    refine ae ?_
    repeat (first|refine bY ?_|refine aH ?_|refine ag ?_|refine aC ?_|refine iI ?_)
    refine ae ?_
    repeat (first|refine bY ?_|refine aH ?_|refine ag ?_|refine eH (by rfl) ?_|refine ik (by rfl) (by rfl) nV ?_|refine aC ?_|refine iI ?_)
    exact dO [1,2,9] _ rfl (key (W.set 0 1048576,C.set ((nd.length:Int) - 1).toNat 1048576) (h.raise _ _))
   ·repeat (first|refine aG ?_|refine ag ?_|refine aY ?_|refine aK ?_)
    refine au ?_
    refine aA ?_
    exact dO [1,2,9] _ rfl (key (W,C) h)
  ·repeat (first|refine ah ?_|refine bZ ?_|refine aH ?_|refine ag ?_|refine aI ?_|refine eH (by rfl) ?_|refine bn ?_|refine aC ?_)
   refine au ?_
   refine aA ?_
   exact dO [1,2,9] _ rfl (key (W,C) h)
 ·rintro ⟨W,C⟩ h
  simp only at h ⊢
  have hlw:=h.lw
  have hlc:=h.lc
  have hB:=h.b
  have hnl:(nd.map nl).length=nd.length:=by simp
  have hE:(stripL (HL.ints W),stripL (HL.ints C),stripL (fZ nd))=(HL.ints W,HL.ints C,aZ (nd.map nl)):=by rw [HL.ints_strip,HL.ints_strip,nM]
  refine jb 0 [1,2,9] (⟨[(1,.int .i64 num),(2,.int .i64 den),(9,.pref 0 [] 0)],[(0,.optr [.sl nd.length (HL.ints W),.sl nd.length (HL.ints C),.sl nd.length (aZ (nd.map nl)),.int .i64 B])],1⟩:St) rfl (congrArg (fun c:List HV×List HV×List HV=>(⟨[(1,.int .i64 num),(2,.int .i64 den),(9,.pref 0 [] 0)],[(0,.optr [.sl nd.length (c.1),.sl nd.length (c.2.1),.sl nd.length (c.2.2),.int .i64 B])],1⟩:St)) hE) ?_
  repeat (first|refine ah ?_|refine ak ?_|refine ae ?_)
  refine bf aJ dI (iZ num 9 (by omega) (by omega) hnu.1 hnu.2) ?_
  rintro _ ⟨x,rfl,hx1⟩
  refine ⟨dE,_,_,_,_,_,dw,(by decide),aQ,?_⟩
  repeat (first|refine ah ?_)
  refine bf aJ dI (iZ den 9 (by omega) (by omega) hde.1 hde.2) ?_
  rintro _ ⟨y,rfl,hy1⟩
  refine ⟨dE,_,_,_,_,_,dw,(by decide),aQ,?_⟩
  repeat (first|refine ah ?_|refine bz ?_|refine dF ?_)
  refine bf aJ dI (iZ num 2100 (by omega) (by omega) hnu.1 hnu.2) ?_
  rintro _ ⟨x2,rfl,hx2⟩
  refine ⟨dE,_,_,_,_,_,dw,(by decide),aQ,?_⟩
  repeat (first|refine ah ?_)
  refine bf aJ dI (iZ den 2100 (by omega) (by omega) hde.1 hde.2) ?_
  rintro _ ⟨y2,rfl,hy2⟩
  refine ⟨dE,_,_,_,_,_,dw,(by decide),aQ,?_⟩
  repeat (first|refine ah ?_|refine ag ?_|refine bz ?_|refine dF ?_|refine Aq gU aJ bW yK (by simp) (by rfl) (by rfl) (by rfl) ?_)
  obtain ⟨L,hLd⟩:∃L:List (Int×Int),[((x:Int),1+(y:Int)),(num,den),(1048576,1),(0,1048576),(1048577,1),(0,0),((x2:Int),1+(y2:Int))]=L:=⟨_,rfl⟩
  have hL7:L.length=7:=by rw [<- hLd];rfl
  have hpl:(TA L).length=7:=by unfold TA;rw [List.length_map,hL7]
  refine kE 305 [9,10] (⟨[(9,.pref 0 [] 0),(10,.sl 7 (TA L))],[(0,.optr [.sl nd.length (HL.ints W),.sl nd.length (HL.ints C),.sl nd.length (aZ (nd.map nl)),.int .i64 B])],1⟩:St) (by rw [<- hLd];rfl) ?_
  repeat (first|refine ah ?_|refine ag ?_|refine ak ?_|refine ae ?_|refine aB ?_)
  refine bD [9,10,11] (fun i:Nat=>i<=7) (fun i=>(⟨[(9,.pref 0 [] 0),(10,.sl 7 (TA L)),(11,.int .i64 i)],[(0,.optr [.sl nd.length (HL.ints W),.sl nd.length (HL.ints C),.sl nd.length (aZ (nd.map nl)),.int .i64 B])],1⟩:St)) (fun i=>7 - i) 0 (by omega) rfl ?_
  intro i hi
  by_cases hin:i<7
  ·obtain ⟨⟨a,b⟩,hab⟩:∃q,L.getD i (0,0)=q:=⟨_,rfl⟩
   have hp:(TA L).getD i .dead=.sl 2 [.int .i64 a,.int .i64 b]:=by rw [Oh _ (by omega),hab]
   repeat (first|refine ah ?_|refine ag ?_|refine az ?_|refine aF ?_|refine ax ?_|refine ak ?_|refine ae ?_|refine aB ?_|refine aA ?_)
   by_cases hm:Mul a b
   ·by_cases hw:WOK (gB W C a b)
    ·have hdu:=Hf h a b hm hw
     have hrd:=Lc h a b hm hw hn9
     have hL:=mV W C a b
     rw [hlw] at hL
     have hwt:=(nJ h a b hm).mono (K':=fun r=>r=.tup [.osl 1 nd.length (HL.ints (gB W C a b)),.bool true]) (by
      rintro r (⟨-,hr⟩|⟨hn,-⟩)
      ·exact hr
      ·exact absurd hw hn)
     simp only [jD,I,Gs,hlw,hlc,hnl] at hdu hrd hwt
     refine bQ bi bi (fun _ _ r=>J5 W C nd B a b r) ?_
     repeat (first|refine ah ?_|refine aN ?_|refine bK (by rfl) aT (by (try simp (disch:=omega) only [go_sem,hp]);try rfl) ?_|refine nO (by rfl) dm bW aT (by decide) (by (try simp (disch:=omega) only [go_sem,reduceIte,Nat.reduceEqDiff,Nat.reduceAdd,Nat.reduceMul,hp]);try rfl) qp ?_)
     refine bG aJ dI hdu (by obtain ⟨r,h,hd⟩:=HT.ex hdu (BM _ _ _ _ _ _ _);exact ⟨r,h,hd⟩) ?_
     rintro _ ⟨fl,set,value,hD,rfl⟩ -
     obtain ⟨d,hd⟩:∃d,oh W C nd B a b (set.take nd.length)=d:=⟨_,rfl⟩
     rw [hd]
     simp only [I]
     refine ⟨dE,_,_,_,_,_,dw,(by decide),aQ,?_⟩
     repeat (first|refine ah ?_|refine ag ?_|refine bU ?_|refine ak ?_)
     refine bQ bi bi (fun _ _ r=>∃S M,Best (gB W C a b) nd (2 ^ nd.length) S M/\r=.tup [.int .i64 ((M+a*B) / b),.int .i64 0]) ?_
     repeat (first|refine ah ?_|refine aN ?_|refine bK (by rfl) aT (by (try simp (disch:=omega) only [go_sem,hp]);try rfl) ?_|refine nO (by rfl) dm bW aT (by decide) (by (try simp (disch:=omega) only [go_sem,reduceIte,Nat.reduceEqDiff,Nat.reduceAdd,Nat.reduceMul,hp]);try rfl) qp ?_)
     refine bG aJ dI hrd (by obtain ⟨r,h,hd⟩:=HT.ex hrd (BM _ _ _ _ _ _ _);exact ⟨r,h,hd⟩) ?_
     rintro _ ⟨S,M,hBe,rfl⟩ -
     obtain rfl:=Xn hD.max hBe
     rw [show (wS (gB W C a b) (set.take nd.length) nd.length+a*B) / b=d from hd]
     refine ⟨dE,_,_,_,_,_,dw,(by decide),aQ,?_⟩
     repeat (first|refine ah ?_|refine aG ?_|refine ag ?_|refine aW ?_|refine aI ?_|refine bU ?_|refine au ?_|refine ak ?_|refine ae ?_|refine aA ?_)
     refine bQ bi bi (fun _ _ r=>r=.tup [.osl 1 nd.length (HL.ints (gB W C a b)),.bool true]) ?_
     repeat (first|refine ah ?_|refine aN ?_|refine bK (by rfl) aT (by (try simp (disch:=omega) only [go_sem,hp]);try rfl) ?_|refine nO (by rfl) dm bW aT (by decide) (by (try simp (disch:=omega) only [go_sem,reduceIte,Nat.reduceEqDiff,Nat.reduceAdd,Nat.reduceMul,hp]);try rfl) qp ?_)
     refine bG aJ dI hwt (by obtain ⟨r,h,hd⟩:=HT.ex hwt (BM _ _ _ _ _ _ _);exact ⟨r,h,hd⟩) ?_
     rintro _ rfl -
     refine ⟨dE,_,_,_,_,_,dw,(by decide),aQ,?_⟩
     have hcb:=zt (gB W C a b) nd _ fl h.g hw hL
     have hcn:=xm (gB W C a b) nd _ h.g hw hL
     simp only [I,Gs,hL,hnl] at hcb hcn
     repeat (first|refine ah ?_|refine aH ?_|refine ag ?_|refine bU ?_|refine ak ?_|refine ae ?_|refine aC ?_)
     refine bf aJ (by simp (disch:=omega) only [dL,fC,HV.thaw,dC,aX,bg,if_true,if_false,reduceIte,Nat.reduceEqDiff,stripL,HV.strip,fF,dJ,eG,Nat.mul_one,List.cons_append,List.nil_append,List.append_nil,I,Bl,T3,Es,List.getD_cons_zero,List.getD_cons_succ,HL.ints_strip,HL.bools_strip,eu,dS];try rfl) (hcb) ?_
     rintro _ ⟨x1,y1,rfl,hBd⟩
     obtain ⟨rfl,hx1⟩:=yP h.g hw hD.found.flow hBd
     have hx3:=hD.found.val
     have hx4:=hD.val
     rw [show ((nd.length:Int)).toNat=nd.length by omega] at hx3
     obtain rfl:x1=wS (gB W C a b) (set.take nd.length) nd.length:=by omega
     refine ⟨dE,_,_,_,_,_,dw,(by decide),aQ,?_⟩
     repeat (first|refine ah ?_|refine aH ?_|refine ag ?_|refine bU ?_|refine ak ?_|refine ae ?_|refine aC ?_)
     refine bf aJ (by simp (disch:=omega) only [dL,fC,HV.thaw,dC,aX,bg,if_true,if_false,reduceIte,Nat.reduceEqDiff,stripL,HV.strip,fF,dJ,eG,Nat.mul_one,List.cons_append,List.nil_append,List.append_nil,I,Bl,T3,Es,List.getD_cons_zero,List.getD_cons_succ,HL.ints_strip,HL.bools_strip,eu,dS];try rfl) (hcn) ?_
     rintro _ rfl
     obtain ⟨E,hEd⟩:∃E,iM (gB W C a b) nd=E:=⟨_,rfl⟩
     have hck:HT Try.prog 16 [.int .i64 ((nd.length:Int)+2),Es E,.int .i64 (nd.length:Int),.int .i64 ((nd.length:Int)+1),I fl] (fun r=>∃x,r=.tup [.int .i64 x,.int .i64 0]):=by
      have hvn:=nU h.g hw
      rw [<- hEd]
      refine (Dw (nd.length+2) (iM (gB W C a b) nd) nd.length (nd.length+1) fl hvn hD.found.flow.len).mono ?_
      rintro _ ⟨x,y,rfl,hR⟩
      obtain ⟨-,rfl⟩:=xO (n:=nd.length+2) (s:=nd.length) (t:=nd.length+1) hvn hD.found.flow hR
      exact ⟨x,rfl⟩
     simp only [I,Es] at hck
     rw [hEd]
     refine ⟨dE,_,_,_,_,_,dw,(by decide),aQ,?_⟩
     have e1:(nd.length:Int)+2 - 2=nd.length:=by omega
     have e2:(nd.length:Int)+2 - 1=nd.length+1:=by omega
     repeat (first|refine ah ?_|refine ag ?_|refine bU ?_|refine ak ?_|refine ae ?_|refine ik (by rfl) (by rfl) (by (try simp (disch:=omega) only [go_sem,Int.reduceAdd,Int.reduceSub,Int.reduceMul,e1,e2]);try rfl) ?_)
     refine bf aJ dI (hck) ?_
     rintro _ ⟨x9,rfl⟩
     refine ⟨dE,_,_,_,_,_,dw,(by decide),aQ,?_⟩
     repeat (first|refine ah ?_|refine ag ?_|refine bU ?_|refine ak ?_)
     have bb:=mX hm.1.1 hm.1.2 hB.1 hB.2
     have hbd:=sW hw (set.take nd.length) nd.length
     have hdn:=yO (wS (gB W C a b) (set.take nd.length) nd.length+a*B) b (by have:=hm.2.1;omega) hm.2.2 (by omega) (by omega)
     rw [show (wS (gB W C a b) (set.take nd.length) nd.length+a*B) / b=d from hd] at hdn
     refine bQ bi bi (fun _ _ r=>r=.int .i64 d) ?_
     repeat (first|refine ah ?_|refine aG ?_|refine aN ?_|refine bK (by rfl) aT (by (try simp (disch:=omega) only [go_sem,hp]);try rfl) ?_|refine gJ (by rfl) dm (by (try simp (disch:=omega) only [go_sem,reduceIte,Nat.reduceEqDiff,Nat.reduceAdd,Nat.reduceMul,hp]);try rfl) aT (by (try simp (disch:=omega) only [go_sem,hp]);try rfl) fP ?_|refine aW ?_|refine aI ?_|refine di (by rfl) (by rfl) (by (try simp (disch:=omega) only [go_sem,Int.reduceAdd,Int.reduceSub,Int.reduceMul,hp]);try rfl) ?_|refine lg (by rfl) (by rfl) (by (try simp (disch:=omega) only [go_sem,Int.reduceAdd,Int.reduceSub,Int.reduceMul,hp]);try rfl) ?_|refine aC ?_)
     refine bG aJ dI hdn ⟨_,rfl,rfl⟩ ?_
     rintro _ rfl -
     refine ⟨dE,_,_,_,_,_,dw,(by decide),aQ,?_⟩
     repeat (first|refine ah ?_|refine aG ?_|refine ag ?_|refine aW ?_|refine aI ?_|refine bz ?_|refine au ?_|refine ae ?_|refine dh ?_|refine aA ?_)
     exact bJ [9,10,11] (i+1) (by show _<=7;omega) (by show 7 - (i+1)<7 - i;omega) rfl
    ·have hdu:=wK h a b 5 (.inr ⟨hm,hw,rfl⟩)
     have hrd:=uT h a b 5 (.inr ⟨hm,hw,rfl⟩)
     simp only [jD,I,Gs,hlw,hlc,hnl] at hdu hrd
     refine bQ bi bi (fun _ _ r=>r=.tup [.int .i64 0,.osl 1 0 [],.int .i64 5]) ?_
     repeat (first|refine ah ?_|refine aN ?_|refine bK (by rfl) aT (by (try simp (disch:=omega) only [go_sem,hp]);try rfl) ?_|refine nO (by rfl) dm bW aT (by decide) (by (try simp (disch:=omega) only [go_sem,reduceIte,Nat.reduceEqDiff,Nat.reduceAdd,Nat.reduceMul,hp]);try rfl) qp ?_)
     refine bG aJ dI hdu ⟨_,rfl,rfl⟩ ?_
     rintro _ rfl -
     refine ⟨dE,_,_,_,_,_,dw,(by decide),aQ,?_⟩
     repeat (first|refine ah ?_|refine ag ?_|refine bU ?_|refine ak ?_)
     refine bQ bi bi (fun _ _ r=>r=.tup [.int .i64 0,.int .i64 5]) ?_
     repeat (first|refine ah ?_|refine aN ?_|refine bK (by rfl) aT (by (try simp (disch:=omega) only [go_sem,hp]);try rfl) ?_|refine nO (by rfl) dm bW aT (by decide) (by (try simp (disch:=omega) only [go_sem,reduceIte,Nat.reduceEqDiff,Nat.reduceAdd,Nat.reduceMul,hp]);try rfl) qp ?_)
     refine bG aJ dI hrd ⟨_,rfl,rfl⟩ ?_
     rintro _ rfl -
     refine ⟨dE,_,_,_,_,_,dw,(by decide),aQ,?_⟩
     repeat (first|refine ah ?_|refine aG ?_|refine ag ?_|refine aW ?_|refine aI ?_|refine bz ?_|refine bU ?_|refine eH (by rfl) ?_|refine aO ?_|refine ax ?_|refine au ?_|refine ak ?_|refine ae ?_|refine aA ?_)
     exact bJ [9,10,11] (i+1) (by show _<=7;omega) (by show 7 - (i+1)<7 - i;omega) rfl
   ·have hdu:=wK h a b 1 (.inl ⟨hm,rfl⟩)
    have hrd:=uT h a b 1 (.inl ⟨hm,rfl⟩)
    simp only [jD,I,Gs,hlw,hlc,hnl] at hdu hrd
    refine bQ bi bi (fun _ _ r=>r=.tup [.int .i64 0,.osl 1 0 [],.int .i64 1]) ?_
    repeat (first|refine ah ?_|refine aN ?_|refine bK (by rfl) aT (by (try simp (disch:=omega) only [go_sem,hp]);try rfl) ?_|refine nO (by rfl) dm bW aT (by decide) (by (try simp (disch:=omega) only [go_sem,reduceIte,Nat.reduceEqDiff,Nat.reduceAdd,Nat.reduceMul,hp]);try rfl) qp ?_)
    refine bG aJ dI hdu ⟨_,rfl,rfl⟩ ?_
    rintro _ rfl -
    refine ⟨dE,_,_,_,_,_,dw,(by decide),aQ,?_⟩
    repeat (first|refine ah ?_|refine ag ?_|refine bU ?_|refine ak ?_)
    refine bQ bi bi (fun _ _ r=>r=.tup [.int .i64 0,.int .i64 1]) ?_
    repeat (first|refine ah ?_|refine aN ?_|refine bK (by rfl) aT (by (try simp (disch:=omega) only [go_sem,hp]);try rfl) ?_|refine nO (by rfl) dm bW aT (by decide) (by (try simp (disch:=omega) only [go_sem,reduceIte,Nat.reduceEqDiff,Nat.reduceAdd,Nat.reduceMul,hp]);try rfl) qp ?_)
    refine bG aJ dI hrd ⟨_,rfl,rfl⟩ ?_
    rintro _ rfl -
    refine ⟨dE,_,_,_,_,_,dw,(by decide),aQ,?_⟩
    repeat (first|refine ah ?_|refine aG ?_|refine ag ?_|refine aW ?_|refine aI ?_|refine bz ?_|refine bU ?_|refine eH (by rfl) ?_|refine aO ?_|refine ax ?_|refine au ?_|refine ak ?_|refine ae ?_|refine aA ?_)
    exact bJ [9,10,11] (i+1) (by show _<=7;omega) (by show 7 - (i+1)<7 - i;omega) rfl
  ·repeat (first|refine ah ?_|refine ag ?_|refine az ?_|refine aF ?_|refine aO ?_|refine au ?_|refine ak ?_|refine ae ?_)
   refine bf aJ dI (xJ) ?_
   rintro _ rfl
   refine ⟨dE,_,_,_,_,_,dw,(by decide),aQ,?_⟩
   repeat (first|refine ah ?_|refine ag ?_)
   refine ay ?_
   rfl
end Go.Proofs.Yteamkjblpglliaa
