import Derived.Test.YteamkjblpglliaaCodesAbridgeChecks
import Derived.Test.YteamkjblpglliaaAbLBo
import Derived.Test.YteamkjblpglliaaAbLBu
import Derived.Test.YteamkjblpglliaaAbN
set_option linter.unusedSimpArgs false
set_option linter.unusedVariables false
namespace Go.Proofs.Yteamkjblpglliaa
open Go.RowKit Go.SL Go.HL
theorem iw (l:List Bool):ja (HL.bools l)=true:=by
 induction l with
 | nil=>rfl
 | cons x l ih=>show (true&&ja (HL.bools l))=true;rw [ih];rfl
theorem Ht {ps:List HV} {F:Nat->Prop} {h:Hp} {rvs:List Value} (o:OW F h dN [.agg ps,.agg [.nils,.int .i64 0,.int .i64 0,.int .i64 0,.int .i64 0,.nils,.int .i64 0,.bool false]] rvs []):OW F h dN [.agg ps,.agg [.sl 0 [],.int .i64 0,.int .i64 0,.int .i64 0,.int .i64 0,.sl 0 [],.int .i64 0,.bool false]] rvs []:=by
 generalize hfs:([]:List Nat)=fs at o ⊢
 cases o with
 | leaf a b c d=>exact absurd rfl (d _)
 | agg a b=>exact .agg a (NG (fun _ _ o=>Hr o) b)
set_option maxHeartbeats 16000000 in
theorem A8 (l m:List Int) (at_ how by_:Int) (hl:l.length<=9223372036854775807) (hr:∀k,k<l.length -> -9223372036854775808<=l.getD k 0/\l.getD k 0<=9223372036854775807) (hml:m.length<=9223372036854775807) (hmr:∀k,k<m.length -> -9223372036854775808<=m.getD k 0/\m.getD k 0<=9223372036854775807)
  (ha : -9223372036854775808<=at_/\at_<=9223372036854775807) (hh : -9223372036854775808<=how/\how<=9223372036854775807) (hb : -9223372036854775808<=by_/\by_<=9223372036854775807) :
  HT Try.prog 5 [I l,I m,.int .i64 at_,.int .i64 how,.int .i64 by_] (fun r=>r=.bool true):=by
 refine HT.of rfl fc5 (Nat.le_of_ble_eq_true rfl) ?_
 unfold c5
 simp only [I,aP,Nat.reduceAdd]
 repeat (first|refine ah ?_|refine ag ?_|refine ak ?_|refine ae ?_)
 refine bf aJ dI (xW l hl hr) ?_
 rintro _ ⟨W,C,nd,B,h,hn9,rfl⟩
 have hlw:=h.lw
 have hlc:=h.lc
 have hB:=h.b
 have hnl:(nd.map nl).length=nd.length:=by simp
 simp only [jD,I,Gs,hlw,hlc,hnl]
 refine ⟨dE,_,_,_,_,_,dw,(by decide),aQ,?_⟩
 repeat (first|refine ah ?_|refine ag ?_|refine ak ?_|refine ae ?_|refine dn ?_|refine iD gU ?_)
 refine bf aJ dI (xW m hml hmr) ?_
 rintro _ ⟨W2,C2,nd2,B2,hq,hq9,rfl⟩
 have hlw2:=hq.lw
 have hlc2:=hq.lc
 have hnl2:(nd2.map nl).length=nd2.length:=by simp
 simp only [jD,I,Gs,hlw2,hlc2,hnl2]
 refine ⟨dE,_,_,_,_,_,dw,(by decide),aQ,?_⟩
 repeat (first|refine ag ?_|refine dn ?_|refine iD gU ?_)
 refine ak ?_
 refine bQ bi bi (boS W C nd B 10 8) ?_
 repeat (first|refine ah ?_|refine bM ?_)
 refine bG aJ dI ((iZ by_ 8 (by omega) (by omega) hb.1 hb.2).mono fun r h=>⟨fun _=>h,fun e=>absurd rfl e⟩) ⟨.int .i64 (0:Nat),NJ (by omega),rfl⟩ ?_
 rintro r hr -
 obtain ⟨z,rfl,hz1⟩:=hr.1 rfl
 refine ⟨dE,_,_,_,_,_,dw,(by decide),aQ,?_⟩
 have hso:=yG h z (by omega) (by omega)
 simp only [jD,I,Gs,hlw,hlc,hnl] at hso
 skip
 refine bG aJ dI (hso.mono fun r h=>Mc (by decide) h) (by obtain ⟨r,h,hd⟩:=HT.ex hso (Ot _ _ _ _ _ _);exact ⟨r,Mc (by decide) h,hd⟩) ?_
 rintro r hr -
 obtain ⟨s,b,rfl,hS⟩:=NP (by decide) hr
 have hbl:=hS.sel.len
 obtain ⟨sn,hsn⟩:∃sn,FV W C nd.length s b=sn:=⟨_,rfl⟩
 have hsl:sn.set.length<=100000:=by rw [<- hsn];show s.best.length<=_;omega
 rw [<- GG hbl,hsn]
 unfold Ai I Bl
 refine ⟨dE,_,_,_,_,_,dw,(by decide),aQ,?_⟩
 repeat (first|refine ah ?_|refine ag ?_|refine bU ?_|refine dn ?_|refine iD gU ?_)
 have hso2:=yG hq 3 (by omega) (by omega)
 simp only [jD,I,Gs,hlw2,hlc2,hnl2] at hso2
 repeat (first|refine ak ?_|refine ae ?_|refine bM ?_)
 refine bf aJ dI (hso2) ?_
 rintro _ ⟨s2,b2,rfl,hS2⟩
 have hbl2:=hS2.sel.len
 obtain ⟨sq,hsq⟩:∃sq,FV W2 C2 nd2.length s2 b2=sq:=⟨_,rfl⟩
 have hsql:sq.set.length<=9223372036854775807:=by rw [<- hsq];show s2.best.length<=_;omega
 rw [<- GG hbl2,hsq]
 unfold Ai I Bl
 refine ⟨dE,_,_,_,_,_,dw,(by decide),aQ,?_⟩
 repeat (first|refine ah ?_|refine aG ?_|refine ag ?_|refine aW ?_|refine aI ?_|refine bU ?_|refine au ?_|refine ak ?_|refine ae ?_|refine aA ?_|refine dn ?_|refine iD gU ?_)
 refine dO [2,3,4,10,11,13,15] (⟨[(2,.int .i64 at_),(3,.int .i64 how),(4,.int .i64 by_),(10,.bool false),(11,.pref 0 [] 0),(13,.pref 1 [] 0),(15,.pref 2 [] 0)],[(0,.optr [.sl nd.length (HL.ints W),.sl nd.length (HL.ints C),.sl nd.length (aZ (nd.map nl)),.int .i64 B]),(1,.optr [.sl sn.set.length (HL.bools sn.set),.int .i64 sn.worth,.int .i64 sn.cost,.int .i64 sn.num,.int .i64 sn.den,.sl sn.flow.length (HL.ints sn.flow),.int .i64 sn.bound,.bool sn.exact]),(2,.optr [.sl sq.set.length (HL.bools sq.set),.int .i64 sq.worth,.int .i64 sq.cost,.int .i64 sq.num,.int .i64 sq.den,.sl sq.flow.length (HL.ints sq.flow),.int .i64 sq.bound,.bool sq.exact])],3⟩:St) rfl ?_
 obtain ⟨q,hq1,hsu,hss,hq2,hq3⟩:=CY nd.length hn9
 have hset:=LX nd.length ((q:Int) - 1) (by omega) (by omega) (by omega)
 rw [show (q:Int) - 1=((2 ^ nd.length - 1:Nat):Int) by omega,U3,yH,<- show (q:Int) - 1=((2 ^ nd.length - 1:Nat):Int) by omega] at hset
 obtain ⟨A,hA⟩:∃A,List.replicate nd.length true=A:=⟨_,rfl⟩
 have hal:A.length=nd.length:=by rw [<- hA];simp
 rw [hA] at hset
 have oW:=vw W A h.wok (by omega) (by omega)
 simp only [I,Bl,hlw,hal] at oW
 obtain ⟨WA,hWA⟩:∃x,wS W A nd.length=x:=⟨_,rfl⟩
 refine bQ bi bi (alD nd.length A 24) ?_
 repeat (first|refine gJ (by rfl) dm (by (try simp (disch:=omega) only [go_sem,reduceIte,Nat.reduceEqDiff,Nat.reduceAdd,Nat.reduceMul,hss]);try rfl) aT (by (try simp (disch:=omega) only [go_sem,hss]);try rfl) fP ?_|refine aF ?_|refine ik (by rfl) (by rfl) (by (try simp (disch:=omega) only [go_sem,Int.reduceAdd,Int.reduceSub,Int.reduceMul,hss]);try rfl) ?_|refine Lp (by rfl) (by rfl) (by omega) (by (try simp (disch:=omega) only [go_sem,Int.reduceAdd,Int.reduceSub,Int.reduceMul,hss]);try rfl) ?_|refine aC ?_|refine ku gU (by rfl) (by omega) bW bW ?_)
 refine bG aJ dI (hset.mono fun r h=>h) ⟨_,rfl,yR _⟩ ?_
 rintro r hr -
 obtain rfl:r=.osl 1 nd.length (HL.bools A):=hr
 refine ⟨dE,_,_,_,_,_,dw,(by decide),aQ,?_⟩
 skip
 refine bG aJ dI (oW.mono fun r h=>(Gx (by decide)).2 h) ⟨_,(Gx (by decide)).2 rfl,rfl⟩ ?_
 rintro r hr -
 obtain rfl:=(Gx (by decide)).1 hr
 rw [hWA]
 refine ⟨dE,_,_,_,_,_,dw,(by decide),aQ,?_⟩
 have hnet:=xm W nd _ h.g h.wok h.lw
 simp only [I,Gs,hlw,hnl] at hnet
 have hNl:(iM W nd).length<=200:=by
  have a2:=jX h.g W
  have a3:=Nat.mul_le_mul hn9 hn9
  omega
 repeat (first|refine aH ?_|refine ag ?_|refine ak ?_|refine ae ?_|refine aC ?_|refine dn ?_|refine iD gU ?_|refine nC ng nD (by simp [iU]) ?_)
 refine bf aJ (by simp (disch:=omega) only [dL,fC,HV.thaw,dC,aX,bg,if_true,if_false,reduceIte,Nat.reduceEqDiff,stripL,HV.strip,fF,dJ,eG,Nat.mul_one,List.cons_append,List.nil_append,List.append_nil,I,Bl,T3,Es,List.getD_cons_zero,List.getD_cons_succ,HL.ints_strip,HL.bools_strip,eu,dS];try rfl) (hnet) ?_
 rintro _ rfl
 obtain ⟨N,hN⟩:∃N,iM W nd=N:=⟨_,rfl⟩
 rw [hN] at hNl ⊢
 refine ⟨dE,_,_,_,_,_,dw,(by decide),aQ,?_⟩
 repeat (first|refine ah ?_|refine aG ?_|refine aH ?_|refine ag ?_|refine aW ?_|refine aI ?_|refine bz ?_|refine bU ?_|refine eH (by rfl) ?_|refine aF ?_|refine au ?_|refine ak ?_|refine ae ?_|refine aA ?_|refine bn ?_|refine aC ?_|refine bM ?_|refine dn ?_|refine ku gU (by rfl) (by omega) bW bW ?_)
 have hfl:sn.flow.length<=100000:=by
  rw [<- hsn]
  obtain ⟨set',value',hD',-⟩:=hS.lst.dual
  have a1:=hD'.found.flow.len
  have a2:=jX h.g (gB W C s.num s.den)
  have a3:=Nat.mul_le_mul hn9 hn9
  show s.flow.length<=_
  omega
 have hsp:=wM sn hsl hfl at_ how by_ ha hh hb
 simp only [Ai,I,Bl] at hsp
 refine bf aJ dI (hsp) ?_
 rintro _ ⟨x,rfl,hT⟩
 have hs9:sn.set.length<=9:=by rw [<- hsn];show s.best.length<=_;omega
 have hT1:=hT.set
 have hT2:=hT.flow
 refine ⟨dE,_,_,_,_,_,dw,(by decide),aQ,?_⟩
 repeat (first|refine ag ?_|refine dn ?_|refine iD gU ?_)
 obtain ⟨F,hF⟩:∃F,List.replicate nd.length false=F:=⟨_,rfl⟩
 obtain ⟨Z,hZ⟩:∃Z:List Int,List.replicate N.length 0=Z:=⟨_,rfl⟩
 have hFl:F.length=nd.length:=by rw [<- hF];simp
 have hZl:Z.length=N.length:=by rw [<- hZ];simp
 have hE:(stripL (HL.bools F),stripL (HL.ints Z))=(HL.bools F,HL.ints Z):=by rw [HL.bools_strip,HL.ints_strip]
 rw [hF,hZ]
 refine jb 275 [2,3,4,10,11,13,15,17,20] (⟨[(2,.int .i64 at_),(3,.int .i64 how),(4,.int .i64 by_),(10,.bool false),(11,.pref 0 [] 0),(13,.pref 1 [] 0),(15,.pref 2 [] 0),(17,.pref 3 [] 0),(20,.pref 4 [] 0)],[(0,.optr [.sl nd.length (HL.ints W),.sl nd.length (HL.ints C),.sl nd.length (aZ (nd.map nl)),.int .i64 B]),(1,.optr [.sl sn.set.length (HL.bools sn.set),.int .i64 sn.worth,.int .i64 sn.cost,.int .i64 sn.num,.int .i64 sn.den,.sl sn.flow.length (HL.ints sn.flow),.int .i64 sn.bound,.bool sn.exact]),(2,.optr [.sl sq.set.length (HL.bools sq.set),.int .i64 sq.worth,.int .i64 sq.cost,.int .i64 sq.num,.int .i64 sq.den,.sl sq.flow.length (HL.ints sq.flow),.int .i64 sq.bound,.bool sq.exact]),(3,.optr [.sl nd.length (HL.bools F),.int .i64 0,.int .i64 0,.int .i64 0,.int .i64 1,.sl N.length (HL.ints Z),.int .i64 WA,.bool false]),(4,.optr [.sl x.set.length (HL.bools x.set),.int .i64 x.worth,.int .i64 x.cost,.int .i64 x.num,.int .i64 x.den,.sl x.flow.length (HL.ints x.flow),.int .i64 x.bound,.bool x.exact])],5⟩:St) rfl (congrArg (fun c:List HV×List HV=>(⟨[(2,.int .i64 at_),(3,.int .i64 how),(4,.int .i64 by_),(10,.bool false),(11,.pref 0 [] 0),(13,.pref 1 [] 0),(15,.pref 2 [] 0),(17,.pref 3 [] 0),(20,.pref 4 [] 0)],[(0,.optr [.sl nd.length (HL.ints W),.sl nd.length (HL.ints C),.sl nd.length (aZ (nd.map nl)),.int .i64 B]),(1,.optr [.sl sn.set.length (HL.bools sn.set),.int .i64 sn.worth,.int .i64 sn.cost,.int .i64 sn.num,.int .i64 sn.den,.sl sn.flow.length (HL.ints sn.flow),.int .i64 sn.bound,.bool sn.exact]),(2,.optr [.sl sq.set.length (HL.bools sq.set),.int .i64 sq.worth,.int .i64 sq.cost,.int .i64 sq.num,.int .i64 sq.den,.sl sq.flow.length (HL.ints sq.flow),.int .i64 sq.bound,.bool sq.exact]),(3,.optr [.sl nd.length (c.1),.int .i64 0,.int .i64 0,.int .i64 0,.int .i64 1,.sl N.length (c.2),.int .i64 WA,.bool false]),(4,.optr [.sl x.set.length (HL.bools x.set),.int .i64 x.worth,.int .i64 x.cost,.int .i64 x.num,.int .i64 x.den,.sl x.flow.length (HL.ints x.flow),.int .i64 x.bound,.bool x.exact])],5⟩:St)) hE) ?_
 obtain ⟨a10,ea⟩:∃a10,at_.tdiv 10=a10:=⟨_,rfl⟩
 obtain ⟨h9,eh⟩:∃h9,how.tdiv 9=h9:=⟨_,rfl⟩
 obtain ⟨b5,eb⟩:∃b5,by_.tdiv 5=b5:=⟨_,rfl⟩
 have ra : -9223372036854775808<=a10/\a10<=9223372036854775807:=by rw [<- ea,Int.tdiv_eq_ediv];have:Int.sign 10=1:=rfl;split<;>omega
 have rh : -9223372036854775808<=h9/\h9<=9223372036854775807:=by rw [<- eh,Int.tdiv_eq_ediv];have:Int.sign 9=1:=rfl;split<;>omega
 have rb : -9223372036854775808<=b5/\b5<=9223372036854775807:=by rw [<- eb,Int.tdiv_eq_ediv];have:Int.sign 5=1:=rfl;split<;>omega
 have hsp2:=wM x (by omega) (by omega) a10 h9 b5 ra rh rb
 simp only [Ai,I,Bl] at hsp2
 refine ak ?_
 refine bQ bi bi (fun _ _ r=>∃t,r=.agg [.sl t.set.length (HL.bools t.set),.int .i64 t.worth,.int .i64 t.cost,.int .i64 t.num,.int .i64 t.den,.sl t.flow.length (HL.ints t.flow),.int .i64 t.bound,.bool t.exact]/\SpR x t) ?_
 repeat (first|refine ah ?_|refine wF (by rfl) (by rfl) (by omega) (by (try simp (disch:=omega) only [go_sem,Int.reduceAdd,Int.reduceSub,Int.reduceMul,ea,eh,eb]);try rfl) ?_|refine nO (by rfl) dm bW aT (by decide) (by (try simp (disch:=omega) only [go_sem,reduceIte,Nat.reduceEqDiff,Nat.reduceAdd,Nat.reduceMul,ea,eh,eb]);try rfl) qp ?_)
 refine bG aJ dI hsp2 (by obtain ⟨r,h,hd⟩:=HT.ex hsp2 (by simp [ja,HV.rdb,gm,iw]);exact ⟨r,h,hd⟩) ?_
 rintro _ ⟨t,rfl,hU⟩ -
 have hU1:=hU.set
 refine ⟨dE,_,_,_,_,_,dw,(by decide),aQ,?_⟩
 repeat (first|refine ah ?_|refine ag ?_|refine ak ?_|refine ae ?_|refine aB ?_|refine bM ?_|refine dF ?_|refine nC ng nD (by simp [iU]) ?_)
 refine bD [10,11,13,21,22] (fun i:Nat=>i<=6) (fun i=>(⟨[(10,.bool false),(11,.pref 0 [] 0),(13,.pref 1 [] 0),(21,.ref 2 [] 8 0 6),(22,.int .i64 i)],[(0,.optr [.sl nd.length (HL.ints W),.sl nd.length (HL.ints C),.sl nd.length (aZ (nd.map nl)),.int .i64 B]),(1,.optr [.sl sn.set.length (HL.bools sn.set),.int .i64 sn.worth,.int .i64 sn.cost,.int .i64 sn.num,.int .i64 sn.den,.sl sn.flow.length (HL.ints sn.flow),.int .i64 sn.bound,.bool sn.exact]),(2,.osl 8 6 [.sl sn.set.length (HL.bools sn.set),.int .i64 sn.worth,.int .i64 sn.cost,.int .i64 sn.num,.int .i64 sn.den,.sl sn.flow.length (HL.ints sn.flow),.int .i64 sn.bound,.bool sn.exact,.sl x.set.length (HL.bools x.set),.int .i64 x.worth,.int .i64 x.cost,.int .i64 x.num,.int .i64 x.den,.sl x.flow.length (HL.ints x.flow),.int .i64 x.bound,.bool x.exact,.sl t.set.length (HL.bools t.set),.int .i64 t.worth,.int .i64 t.cost,.int .i64 t.num,.int .i64 t.den,.sl t.flow.length (HL.ints t.flow),.int .i64 t.bound,.bool t.exact,.sl sq.set.length (HL.bools sq.set),.int .i64 sq.worth,.int .i64 sq.cost,.int .i64 sq.num,.int .i64 sq.den,.sl sq.flow.length (HL.ints sq.flow),.int .i64 sq.bound,.bool sq.exact,.sl nd.length (HL.bools F),.int .i64 0,.int .i64 0,.int .i64 0,.int .i64 1,.sl N.length (HL.ints Z),.int .i64 WA,.bool false,.nils,.int .i64 0,.int .i64 0,.int .i64 0,.int .i64 0,.nils,.int .i64 0,.bool false])],3⟩:St)) (fun i=>6 - i) 0 (by omega) rfl ?_
 intro i hi
 rcases (show i=0\/i=1\/i=2\/i=3\/i=4\/i=5\/i=6 by omega) with rfl|rfl|rfl|rfl|rfl|rfl|rfl
 ·have hck:=kX h sn (by omega)
  have hrc:=lT h sn (by omega)
  simp only [jD,Ai,I,Bl,Gs,hlw,hlc,hnl,hFl,hZl,List.length_nil] at hck hrc
  repeat (first|refine ah ?_|refine ag ?_|refine az ?_|refine eH (by rfl) ?_|refine ax ?_|refine ak ?_|refine ae ?_|refine aB ?_|refine aA ?_)
  refine bQ bi bi (fun _ _ r=>∃e,r=.int .i64 e/\SnE W C nd B sn e) ?_
  repeat (first|refine ah ?_|refine bY ?_|refine bM ?_)
  refine bG aJ dI hck (by obtain ⟨r,h,hd⟩:=HT.ex hck (by simp [ja,HV.rdb,gm,gu,iw]);exact ⟨r,h,hd⟩) ?_
  rintro _ ⟨e,rfl,he⟩ -
  refine ⟨dE,_,_,_,_,_,dw,(by decide),aQ,?_⟩
  repeat (first|refine ah ?_|refine bY ?_|refine bM ?_)
  refine bG aJ dI hrc (by obtain ⟨r,h,hd⟩:=HT.ex hrc (by simp [ja,HV.rdb,gm,gu,iw]);exact ⟨r,h,hd⟩) ?_
  rintro _ ⟨e',rfl,he'⟩ -
  obtain rfl:=SnE.eq he he'
  refine ⟨dE,_,_,_,_,_,dw,(by decide),aQ,?_⟩
  repeat (first|refine ah ?_|refine ag ?_|refine aW ?_|refine bz ?_|refine au ?_|refine ae ?_|refine dh ?_|refine aA ?_)
  exact bJ [10,11,13,21,22] 1 (by decide) (by decide) rfl
 ·have hck:=kX h x (by omega)
  have hrc:=lT h x (by omega)
  simp only [jD,Ai,I,Bl,Gs,hlw,hlc,hnl,hFl,hZl,List.length_nil] at hck hrc
  repeat (first|refine ah ?_|refine ag ?_|refine az ?_|refine eH (by rfl) ?_|refine ax ?_|refine ak ?_|refine ae ?_|refine aB ?_|refine aA ?_)
  refine bQ bi bi (fun _ _ r=>∃e,r=.int .i64 e/\SnE W C nd B x e) ?_
  repeat (first|refine ah ?_|refine bY ?_|refine bM ?_)
  refine bG aJ dI hck (by obtain ⟨r,h,hd⟩:=HT.ex hck (by simp [ja,HV.rdb,gm,gu,iw]);exact ⟨r,h,hd⟩) ?_
  rintro _ ⟨e,rfl,he⟩ -
  refine ⟨dE,_,_,_,_,_,dw,(by decide),aQ,?_⟩
  repeat (first|refine ah ?_|refine bY ?_|refine bM ?_)
  refine bG aJ dI hrc (by obtain ⟨r,h,hd⟩:=HT.ex hrc (by simp [ja,HV.rdb,gm,gu,iw]);exact ⟨r,h,hd⟩) ?_
  rintro _ ⟨e',rfl,he'⟩ -
  obtain rfl:=SnE.eq he he'
  refine ⟨dE,_,_,_,_,_,dw,(by decide),aQ,?_⟩
  repeat (first|refine ah ?_|refine ag ?_|refine aW ?_|refine bz ?_|refine au ?_|refine ae ?_|refine dh ?_|refine aA ?_)
  exact bJ [10,11,13,21,22] 2 (by decide) (by decide) rfl
 ·have hck:=kX h t (by omega)
  have hrc:=lT h t (by omega)
  simp only [jD,Ai,I,Bl,Gs,hlw,hlc,hnl,hFl,hZl,List.length_nil] at hck hrc
  repeat (first|refine ah ?_|refine ag ?_|refine az ?_|refine eH (by rfl) ?_|refine ax ?_|refine ak ?_|refine ae ?_|refine aB ?_|refine aA ?_)
  refine bQ bi bi (fun _ _ r=>∃e,r=.int .i64 e/\SnE W C nd B t e) ?_
  repeat (first|refine ah ?_|refine bY ?_|refine bM ?_)
  refine bG aJ dI hck (by obtain ⟨r,h,hd⟩:=HT.ex hck (by simp [ja,HV.rdb,gm,gu,iw]);exact ⟨r,h,hd⟩) ?_
  rintro _ ⟨e,rfl,he⟩ -
  refine ⟨dE,_,_,_,_,_,dw,(by decide),aQ,?_⟩
  repeat (first|refine ah ?_|refine bY ?_|refine bM ?_)
  refine bG aJ dI hrc (by obtain ⟨r,h,hd⟩:=HT.ex hrc (by simp [ja,HV.rdb,gm,gu,iw]);exact ⟨r,h,hd⟩) ?_
  rintro _ ⟨e',rfl,he'⟩ -
  obtain rfl:=SnE.eq he he'
  refine ⟨dE,_,_,_,_,_,dw,(by decide),aQ,?_⟩
  repeat (first|refine ah ?_|refine ag ?_|refine aW ?_|refine bz ?_|refine au ?_|refine ae ?_|refine dh ?_|refine aA ?_)
  exact bJ [10,11,13,21,22] 3 (by decide) (by decide) rfl
 ·have hck:=kX h sq hsql
  have hrc:=lT h sq hsql
  simp only [jD,Ai,I,Bl,Gs,hlw,hlc,hnl,hFl,hZl,List.length_nil] at hck hrc
  repeat (first|refine ah ?_|refine ag ?_|refine az ?_|refine eH (by rfl) ?_|refine ax ?_|refine ak ?_|refine ae ?_|refine aB ?_|refine aA ?_)
  refine bQ bi bi (fun _ _ r=>∃e,r=.int .i64 e/\SnE W C nd B sq e) ?_
  repeat (first|refine ah ?_|refine bY ?_|refine bM ?_)
  refine bG aJ dI hck (by obtain ⟨r,h,hd⟩:=HT.ex hck (by simp [ja,HV.rdb,gm,gu,iw]);exact ⟨r,h,hd⟩) ?_
  rintro _ ⟨e,rfl,he⟩ -
  refine ⟨dE,_,_,_,_,_,dw,(by decide),aQ,?_⟩
  repeat (first|refine ah ?_|refine bY ?_|refine bM ?_)
  refine bG aJ dI hrc (by obtain ⟨r,h,hd⟩:=HT.ex hrc (by simp [ja,HV.rdb,gm,gu,iw]);exact ⟨r,h,hd⟩) ?_
  rintro _ ⟨e',rfl,he'⟩ -
  obtain rfl:=SnE.eq he he'
  refine ⟨dE,_,_,_,_,_,dw,(by decide),aQ,?_⟩
  repeat (first|refine ah ?_|refine ag ?_|refine aW ?_|refine bz ?_|refine au ?_|refine ae ?_|refine dh ?_|refine aA ?_)
  exact bJ [10,11,13,21,22] 4 (by decide) (by decide) rfl
 ·have hck:=kX h ⟨F,0,0,0,1,Z,WA,false⟩ (by show F.length<=_;omega)
  have hrc:=lT h ⟨F,0,0,0,1,Z,WA,false⟩ (by show F.length<=_;omega)
  simp only [jD,Ai,I,Bl,Gs,hlw,hlc,hnl,hFl,hZl,List.length_nil] at hck hrc
  repeat (first|refine ah ?_|refine ag ?_|refine az ?_|refine eH (by rfl) ?_|refine ax ?_|refine ak ?_|refine ae ?_|refine aB ?_|refine aA ?_)
  refine bQ bi bi (fun _ _ r=>∃e,r=.int .i64 e/\SnE W C nd B ⟨F,0,0,0,1,Z,WA,false⟩ e) ?_
  repeat (first|refine ah ?_|refine bY ?_|refine bM ?_)
  refine bG aJ dI hck (by obtain ⟨r,h,hd⟩:=HT.ex hck (by simp [ja,HV.rdb,gm,gu,iw]);exact ⟨r,h,hd⟩) ?_
  rintro _ ⟨e,rfl,he⟩ -
  refine ⟨dE,_,_,_,_,_,dw,(by decide),aQ,?_⟩
  repeat (first|refine ah ?_|refine bY ?_|refine bM ?_)
  refine bG aJ dI hrc (by obtain ⟨r,h,hd⟩:=HT.ex hrc (by simp [ja,HV.rdb,gm,gu,iw]);exact ⟨r,h,hd⟩) ?_
  rintro _ ⟨e',rfl,he'⟩ -
  obtain rfl:=SnE.eq he he'
  refine ⟨dE,_,_,_,_,_,dw,(by decide),aQ,?_⟩
  repeat (first|refine ah ?_|refine ag ?_|refine aW ?_|refine bz ?_|refine au ?_|refine ae ?_|refine dh ?_|refine aA ?_)
  exact bJ [10,11,13,21,22] 5 (by decide) (by decide) rfl
 ·have hck:=kX h ⟨[],0,0,0,0,[],0,false⟩ (by simp)
  have hrc:=lT h ⟨[],0,0,0,0,[],0,false⟩ (by simp)
  simp only [jD,Ai,I,Bl,Gs,hlw,hlc,hnl,hFl,hZl,List.length_nil] at hck hrc
  have hck:=HT.arg (args':=[.agg [.sl nd.length (HL.ints W),.sl nd.length (HL.ints C),.sl nd.length (aZ (nd.map nl)),.int .i64 B],.agg [.nils,.int .i64 0,.int .i64 0,.int .i64 0,.int .i64 0,.nils,.int .i64 0,.bool false]]) (fun _ _ _ o=>Ht o) hck
  have hrc:=HT.arg (args':=[.agg [.sl nd.length (HL.ints W),.sl nd.length (HL.ints C),.sl nd.length (aZ (nd.map nl)),.int .i64 B],.agg [.nils,.int .i64 0,.int .i64 0,.int .i64 0,.int .i64 0,.nils,.int .i64 0,.bool false]]) (fun _ _ _ o=>Ht o) hrc
  repeat (first|refine ah ?_|refine ag ?_|refine az ?_|refine eH (by rfl) ?_|refine ax ?_|refine ak ?_|refine ae ?_|refine aB ?_|refine aA ?_)
  refine bQ bi bi (fun _ _ r=>∃e,r=.int .i64 e/\SnE W C nd B ⟨[],0,0,0,0,[],0,false⟩ e) ?_
  repeat (first|refine ah ?_|refine bY ?_|refine bM ?_)
  refine bG aJ dI hck (by obtain ⟨r,h,hd⟩:=HT.ex hck (by simp [ja,HV.rdb,gm,gu,iw]);exact ⟨r,h,hd⟩) ?_
  rintro _ ⟨e,rfl,he⟩ -
  refine ⟨dE,_,_,_,_,_,dw,(by decide),aQ,?_⟩
  repeat (first|refine ah ?_|refine bY ?_|refine bM ?_)
  refine bG aJ dI hrc (by obtain ⟨r,h,hd⟩:=HT.ex hrc (by simp [ja,HV.rdb,gm,gu,iw]);exact ⟨r,h,hd⟩) ?_
  rintro _ ⟨e',rfl,he'⟩ -
  obtain rfl:=SnE.eq he he'
  refine ⟨dE,_,_,_,_,_,dw,(by decide),aQ,?_⟩
  repeat (first|refine ah ?_|refine ag ?_|refine aW ?_|refine bz ?_|refine au ?_|refine ae ?_|refine dh ?_|refine aA ?_)
  exact bJ [10,11,13,21,22] 6 (by decide) (by decide) rfl
 ·have hck:=kX h sn (by omega)
  simp only [jD,Ai,I,Bl,Gs,hlw,hlc,hnl] at hck
  repeat (first|refine ah ?_|refine ag ?_|refine az ?_|refine eH (by rfl) ?_|refine aO ?_|refine au ?_|refine ak ?_|refine ae ?_|refine bM ?_)
  refine bf aJ (by simp (disch:=omega) only [dL,fC,HV.thaw,dC,aX,bg,if_true,if_false,reduceIte,Nat.reduceEqDiff,stripL,HV.strip,fF,dJ,eG,Nat.mul_one,List.cons_append,List.nil_append,List.append_nil,I,Bl,T3,Es,List.getD_cons_zero,List.getD_cons_succ,HL.ints_strip,HL.bools_strip,eu,dS];try rfl) (hck) ?_
  rintro _ ⟨e,rfl,he⟩
  obtain rfl:e=0:=SolS.check h.g hS (hsn▸he)
  refine ⟨dE,_,_,_,_,_,dw,(by decide),aQ,?_⟩
  repeat (first|refine ah ?_|refine aG ?_|refine aY ?_)
  refine bf aJ dI (xJ) ?_
  rintro _ rfl
  refine ⟨dE,_,_,_,_,_,dw,(by decide),aQ,?_⟩
  repeat (first|refine ah ?_|refine ag ?_|refine aK ?_)
  refine ay ?_
  rfl
end Go.Proofs.Yteamkjblpglliaa
