import Derived.Test.YteamkjblpglliaaAbZ
set_option linter.unusedSimpArgs false
set_option linter.unusedVariables false
namespace Go.Proofs.Yteamkjblpglliaa
open Go.RowKit Go.SL Go.HL
structure Lst (W C:List Int) (nd:List (List Nat)) (B:Int) (s:Se):Prop where
 mul:Mul s.num s.den
 wok:WOK (gB W C s.num s.den)
 max:mO (gB W C s.num s.den) nd s.set
 dual:∃set value,Lh W C nd s.num s.den s.flow set value/\s.set=set.take nd.length
 val:s.value=oh W C nd B s.num s.den s.set
def DualA (W C:List Int) (nd:List (List Nat)) (B num den:Int) (r:HV):Prop :=
 Lu W C nd B num den r/\Mul num den\/∃e,e≠0/\0<=e/\e<=5/\r=.tup [.agg [.int .i64 0,.int .i64 0,.int .i64 0,.nils,.nils],.int .i64 e]
theorem J8 {W C:List Int} {nd:List (List Nat)} {B:Int} (h:Pb W C nd B) (num den:Int):HT Try.prog 35 [.agg (jD W C nd B),.int .i64 num,.int .i64 den] (DualA W C nd B num den):=by
 by_cases hm:Mul num den
 ·by_cases hw:WOK (gB W C num den)
  ·exact (vI h num den hm hw).mono fun r hr=>.inl ⟨hr,hm⟩
  ·exact (nR h num den 5 (.inr ⟨hm,hw,rfl⟩)).mono fun r hr=>.inr ⟨5,by omega,by omega,by omega,hr⟩
 ·exact (nR h num den 1 (.inl ⟨hm,rfl⟩)).mono fun r hr=>.inr ⟨1,by omega,by omega,by omega,hr⟩
theorem uM {α:Type} {P:Program} {k:List HI} {Q:HE->St->Prop} {G:Prop} (σ:α->St) (Inv:α->Prop) (use:(∀a,Inv a->hx P k Q (σ a))->G) (key:∀a,Inv a->hx P k Q (σ a)):G:=use key
structure DOK (W C:List Int) (nd:List (List Nat)) (num den:Int) (fl:List Int) (S:List Bool):Prop where
 mul:Mul num den
 wok:WOK (gB W C num den)
 max:mO (gB W C num den) nd S
 dual:∃set value,Lh W C nd num den fl set value/\S=set.take nd.length
theorem DualA.cases {W C:List Int} {nd:List (List Nat)} {B num den:Int} {r:HV} (h:DualA W C nd B num den r) :
  (∃fl S,DOK W C nd num den fl S/\r=.tup [.agg [.int .i64 num,.int .i64 den,.int .i64 (oh W C nd B num den S),.osl 1 nd.length (HL.bools S),.osl 1 fl.length (HL.ints fl)],.int .i64 0])\/∃e,e≠0/\0<=e/\e<=5/\r=.tup [.agg [.int .i64 0,.int .i64 0,.int .i64 0,.nils,.nils],.int .i64 e]:=by
 rcases h with ⟨⟨fl,set,value,hD,rfl⟩,hm⟩|h
 ·exact .inl ⟨fl,set.take nd.length,⟨hm,hD.wok,hD.max,set,value,hD,rfl⟩,by rw [hD.found.flow.len]⟩
 ·exact .inr h
def dB (W C:List Int) (nd:List (List Nat)) (B:Int) (num den:Int):Option (List Int×List Bool)->List HV
 | none=>[.int .i64 0,.int .i64 0,.int .i64 0,.nils,.nils]
 | some (fl,S)=>[.int .i64 num,.int .i64 den,.int .i64 (oh W C nd B num den S),.osl 1 nd.length (HL.bools S),.osl 1 fl.length (HL.ints fl)]
def abE (W C:List Int) (nd:List (List Nat)) (q:Int×Int×Int×Option (List Int×List Bool)):Prop :=
 (0<=q.1/\q.1<=536870912)/\(1<=q.2.1/\q.2.1<=536870912)/\((q.2.2.2=none/\q.2.2.1≠0)\/∃fl S,q.2.2.2=some (fl,S)/\q.2.2.1=0/\DOK W C nd q.1 q.2.1 fl S)
set_option maxHeartbeats 16000000 in
theorem yV {W C:List Int} {nd us:List (List Nat)} {B:Int} (h:Pb W C nd B) (s:Se) (hL:Lst W C nd B s) (hS:Sel C nd B s.best) :
  HTI Try.prog 43 [.optr (pW W C nd us B s)] [0] (fun r outs=>∃s',r=.tup []/\outs=[.optr (pW W C nd us B s')]/\Lst W C nd B s'/\Sel C nd B s'.best/\Keeps W C nd.length s.best s'.best/\s'.steps=s.steps):=by
 have hsz:=h.g.size
 have hlw:=h.lw
 have hlc:=h.lc
 have hnl:(nd.map nl).length=nd.length:=by simp
 have hbl:=hS.len
 have hsl:=hL.max.len
 simp only [pW,I,Bl,Gs,hlw,hlc,hbl,hsl,hnl]
 refine HTI.of rfl aew (Nat.le_of_ble_eq_true rfl) 1 [0] (by rfl) (by rfl) (⟨[(0,.pref 0 [] 0)],[(0,.optr [.sl nd.length (HL.ints W),.sl nd.length (HL.ints C),.sl nd.length (aZ (nd.map nl)),.int .i64 B,.int .i64 s.steps,.sl nd.length (HL.bools s.best),.int .i64 s.num,.int .i64 s.den,.int .i64 s.value,.sl nd.length (HL.bools s.set),.sl s.flow.length (HL.ints s.flow),.sl (us.map nl).length (aZ (us.map nl))])],1⟩:St) rfl ?_
 unfold c43
 repeat (first|refine ak ?_)
 refine bQ bi bi (fun _ _ _=>False) ?_
 repeat (first|refine ah ?_|refine aH ?_|refine ag ?_|refine aF ?_|refine ak ?_|refine ae ?_|refine aB ?_|refine aC ?_|refine ku gU (by rfl) (by omega) bW bW ?_|refine cZ fP rfl ?_)
 have hrl:(List.replicate nd.length false).length=nd.length:=by simp
 have hE:stripL (win (HL.bools (List.replicate nd.length false)) 0 (nd.length*1))=HL.bools (List.replicate nd.length false):=by rw [dJ _ (by omega),HL.bools_strip]
 refine kE 177 [0,2,3,20] (⟨[(0,.pref 0 [] 0),(2,.sl nd.length (HL.bools s.set)),(3,.sl nd.length (HL.bools (List.replicate nd.length false))),(20,.int .i64 0)],[(0,.optr [.sl nd.length (HL.ints W),.sl nd.length (HL.ints C),.sl nd.length (aZ (nd.map nl)),.int .i64 B,.int .i64 s.steps,.sl nd.length (HL.bools s.best),.int .i64 s.num,.int .i64 s.den,.int .i64 s.value,.sl nd.length (HL.bools s.set),.sl s.flow.length (HL.ints s.flow),.sl (us.map nl).length (aZ (us.map nl))])],1⟩:St) (congrArg (fun c:List HV=>(⟨[(0,.pref 0 [] 0),(2,.sl nd.length (HL.bools s.set)),(3,.sl nd.length c),(20,.int .i64 0)],[(0,.optr [.sl nd.length (HL.ints W),.sl nd.length (HL.ints C),.sl nd.length (aZ (nd.map nl)),.int .i64 B,.int .i64 s.steps,.sl nd.length (HL.bools s.best),.int .i64 s.num,.int .i64 s.den,.int .i64 s.value,.sl nd.length (HL.bools s.set),.sl s.flow.length (HL.ints s.flow),.sl (us.map nl).length (aZ (us.map nl))])],1⟩:St)) hE) ?_
 refine bD [0,2,3,20] (fun q:Nat×Se×List Bool×List Bool=>q.1<=30/\Lst W C nd B q.2.1/\Sel C nd B q.2.1.best/\Keeps W C nd.length s.best q.2.1.best/\q.2.1.steps=s.steps/\q.2.2.1.length=nd.length/\q.2.2.2.length=nd.length)
  (fun q=>⟨[(0,.pref 0 [] 0),(2,.sl nd.length (HL.bools q.2.2.1)),(3,.sl nd.length (HL.bools q.2.2.2)),(20,.int .i64 q.1)],[(0,.optr [.sl nd.length (HL.ints W),.sl nd.length (HL.ints C),.sl nd.length (aZ (nd.map nl)),.int .i64 B,.int .i64 q.2.1.steps,.sl nd.length (HL.bools q.2.1.best),.int .i64 q.2.1.num,.int .i64 q.2.1.den,.int .i64 q.2.1.value,.sl nd.length (HL.bools q.2.1.set),.sl q.2.1.flow.length (HL.ints q.2.1.flow),.sl (us.map nl).length (aZ (us.map nl))])],1⟩) (fun q=>30 - q.1) (0,s,s.set,List.replicate nd.length false) ⟨by simp only;omega,hL,hS,Keeps.refl _ _ _ _,rfl,hsl,hrl⟩ rfl ?_
 rintro ⟨i,s1,high,low⟩ ⟨hi,hLq,hSq,hKq,hstq,hhl,hll⟩
 simp only at hi hLq hSq hKq hstq hhl hll ⊢
 by_cases hi30:i<30
 ·have o1:=fD W high h.wok (by omega) (by omega)
  have o2:=fD W low h.wok (by omega) (by omega)
  have o3:=fD C high h.cok (by omega) (by omega)
  have o4:=fD C low h.cok (by omega) (by omega)
  simp only [I,Bl,hlw,hlc,hhl,hll] at o1 o2 o3 o4
  repeat (first|refine ag ?_|refine az ?_|refine ax ?_|refine ak ?_|refine ae ?_|refine aB ?_|refine aA ?_)
  refine bQ bi bi (Ik nd.length) ?_
  repeat (first|refine ah ?_|refine aH ?_|refine aC ?_|refine cZ fP rfl ?_)
  refine bG aJ dI (o1.mono fun r h=>⟨W,high,rfl,h⟩) ⟨_,⟨W,high,rfl,rfl⟩,rfl⟩ ?_
  rintro r hr -
  obtain rfl:=gz hr
  refine ⟨dE,_,_,_,_,_,dw,(by decide),aQ,?_⟩
  repeat (first|refine ah ?_|refine aH ?_|refine aC ?_|refine cZ fP rfl ?_)
  refine bG aJ dI (o2.mono fun r h=>⟨W,low,rfl,h⟩) ⟨_,⟨W,low,rfl,rfl⟩,rfl⟩ ?_
  rintro r hr -
  obtain rfl:=gz hr
  refine ⟨dE,_,_,_,_,_,dw,(by decide),aQ,?_⟩
  have w1:=mD h.w high nd.length
  have w2:=mD h.w low nd.length
  have w3:=mD h.c high nd.length
  have w4:=mD h.c low nd.length
  repeat (first|refine ah ?_|refine ag ?_|refine ak ?_|refine ik (by rfl) (by rfl) nV ?_|refine FC (by rfl) (by rfl) (by (try simp only [go_sem,reduceIte]);try rfl) ?_)
  refine bQ bi bi (Ik nd.length) ?_
  repeat (first|refine ah ?_|refine aH ?_|refine aC ?_|refine cZ fP rfl ?_)
  refine bG aJ dI (o3.mono fun r h=>⟨C,high,rfl,h⟩) ⟨_,⟨C,high,rfl,rfl⟩,rfl⟩ ?_
  rintro r hr -
  obtain rfl:=gz hr
  refine ⟨dE,_,_,_,_,_,dw,(by decide),aQ,?_⟩
  repeat (first|refine ah ?_|refine aH ?_|refine aC ?_|refine cZ fP rfl ?_)
  refine bG aJ dI (o4.mono fun r h=>⟨C,low,rfl,h⟩) ⟨_,⟨C,low,rfl,rfl⟩,rfl⟩ ?_
  rintro r hr -
  obtain rfl:=gz hr
  refine ⟨dE,_,_,_,_,_,dw,(by decide),aQ,?_⟩
  repeat (first|refine ah ?_|refine ag ?_|refine ak ?_|refine ae ?_|refine ik (by rfl) (by rfl) nV ?_|refine aC ?_|refine bM ?_|refine FC (by rfl) (by rfl) (by (try simp only [go_sem,reduceIte]);try rfl) ?_|refine cZ fP rfl ?_)
  obtain ⟨num,hnum⟩:∃num,(if 0<wS W high nd.length - wS W low nd.length then wS W high nd.length - wS W low nd.length else 0)=num:=⟨_,rfl⟩
  obtain ⟨den,hden⟩:∃den,(if 1<wS C high nd.length - wS C low nd.length then wS C high nd.length - wS C low nd.length else 1)=den:=⟨_,rfl⟩
  rw [hnum,hden]
  have hn0:0<=num/\num<=536870912:=by rw [<- hnum];split<;>omega
  have hd0:1<=den/\den<=536870912:=by rw [<- hden];split<;>omega
  have hda:=fun num den=>J8 h num den
  simp only [jD,I,Gs,hlw,hlc,hnl] at hda
  apply uM (P:=Try.prog) (fun q:Int×Int×Int×Option (List Int×List Bool)=>(⟨[(0,.pref 0 [] 0),(2,.sl nd.length (HL.bools high)),(3,.sl nd.length (HL.bools low)),(4,.int .i64 q.1),(5,.int .i64 q.2.1),(6,.pref 1 [] 0),(7,.int .i64 q.2.2.1),(20,.int .i64 i)],[(0,.optr [.sl nd.length (HL.ints W),.sl nd.length (HL.ints C),.sl nd.length (aZ (nd.map nl)),.int .i64 B,.int .i64 s1.steps,.sl nd.length (HL.bools s1.best),.int .i64 s1.num,.int .i64 s1.den,.int .i64 s1.value,.sl nd.length (HL.bools s1.set),.sl s1.flow.length (HL.ints s1.flow),.sl (us.map nl).length (aZ (us.map nl))]),(1,.optr (dB W C nd B q.1 q.2.1 q.2.2.2))],2⟩:St)) (abE W C nd)
  ·intro key
   refine bf aJ dI (hda num den) ?_
   rintro r hr
   rcases hr.cases with ⟨fl,S,hD,rfl⟩|⟨e,he0,he1,he5,rfl⟩
   ·refine ⟨dE,_,_,_,_,_,dw,(by decide),aQ,?_⟩
    repeat (first|refine ah ?_|refine ag ?_|refine bU ?_|refine dn ?_|refine iD gU ?_)
    refine dO [0,2,3,4,5,6,7,20] _ rfl (key (num,den,0,some (fl,S)) ⟨by simp only;omega,by simp only;omega,.inr ⟨fl,S,rfl,rfl,hD⟩⟩)
   ·refine ⟨dE,_,_,_,_,_,dw,(by decide),aQ,?_⟩
    repeat (first|refine ah ?_|refine ag ?_|refine bU ?_|refine dn ?_|refine iD gU ?_)
    refine dO [0,2,3,4,5,6,7,20] _ rfl (key (num,den,e,none) ⟨by simp only;omega,by simp only;omega,.inl ⟨rfl,he0⟩⟩)
  ·intro q0 hq0
   refine ak ?_
   refine aB ?_
   refine bD [0,2,3,4,5,6,7,20] (abE W C nd) (fun q:Int×Int×Int×Option (List Int×List Bool)=>(⟨[(0,.pref 0 [] 0),(2,.sl nd.length (HL.bools high)),(3,.sl nd.length (HL.bools low)),(4,.int .i64 q.1),(5,.int .i64 q.2.1),(6,.pref 1 [] 0),(7,.int .i64 q.2.2.1),(20,.int .i64 i)],[(0,.optr [.sl nd.length (HL.ints W),.sl nd.length (HL.ints C),.sl nd.length (aZ (nd.map nl)),.int .i64 B,.int .i64 s1.steps,.sl nd.length (HL.bools s1.best),.int .i64 s1.num,.int .i64 s1.den,.int .i64 s1.value,.sl nd.length (HL.bools s1.set),.sl s1.flow.length (HL.ints s1.flow),.sl (us.map nl).length (aZ (us.map nl))]),(1,.optr (dB W C nd B q.1 q.2.1 q.2.2.2))],2⟩:St)) (fun q=>q.1.toNat+q.2.1.toNat) q0 hq0 rfl ?_
   clear hnum hden hn0 hd0 w1 w2 w3 w4 hq0 o1 o2
   clear num den
   rintro ⟨num,den,e,o⟩ ⟨⟨hn1,hn2⟩,⟨hd1,hd2⟩,ho⟩
   simp only at hn1 hn2 hd1 hd2 ho ⊢
   rcases ho with ⟨rfl,he⟩|⟨fl,S,rfl,rfl,hD⟩
   ·simp only [dB]
    by_cases hgo:num+den>1
    ·obtain ⟨n2,hn2e⟩:∃n2,num.tdiv 2=n2:=⟨_,rfl⟩
     obtain ⟨d2,hd2e⟩:∃d2,(if 1<den.tdiv 2 then den.tdiv 2 else 1)=d2:=⟨_,rfl⟩
     have hn3:0<=n2/\2*n2<=num:=by rw [<- hn2e,Int.tdiv_eq_ediv_of_nonneg hn1];omega
     have hd3:1<=d2/\d2<=den/\(1<den->d2<den):=by rw [<- hd2e,Int.tdiv_eq_ediv_of_nonneg (by omega)];split<;>omega
     have hd0 : -9223372036854775808<=den.tdiv 2/\den.tdiv 2<=9223372036854775807:=by rw [Int.tdiv_eq_ediv_of_nonneg (by omega)];omega
     repeat (first|refine ah ?_|refine aG ?_|refine ag ?_|refine aW ?_|refine aK ?_|refine di (by rfl) (by rfl) (by (try simp (disch:=omega) only [go_sem,Int.reduceAdd,Int.reduceSub,Int.reduceMul,hn2e,hd2e]);try rfl) ?_|refine ax ?_|refine ak ?_|refine ae ?_|refine aB ?_|refine aA ?_|refine wF (by rfl) (by rfl) (by omega) (by (try simp (disch:=omega) only [go_sem,Int.reduceAdd,Int.reduceSub,Int.reduceMul,hn2e,hd2e]);try rfl) ?_|refine bn ?_|refine aC ?_|refine nO (by rfl) dm bW aT (by decide) (by (try simp (disch:=omega) only [go_sem,reduceIte,Nat.reduceEqDiff,Nat.reduceAdd,Nat.reduceMul,hn2e,hd2e]);try rfl) qp ?_|refine FC (by rfl) (by rfl) (by (try simp only [go_sem,reduceIte,hn2e,hd2e]);try rfl) ?_|refine cZ fP rfl ?_)
     refine bf aJ dI (hda n2 d2) ?_
     rintro r hr
     rcases hr.cases with ⟨fl,S,hD,rfl⟩|⟨e,he0,he1,he5,rfl⟩
     ·refine ⟨dE,_,_,_,_,_,dw,(by decide),aQ,?_⟩
      repeat (first|refine ah ?_|refine ag ?_|refine bU ?_|refine dh ?_|refine dn ?_)
      exact bJ [0,2,3,4,5,6,7,20] (n2,d2,0,some (fl,S)) ⟨by simp only;omega,by simp only;omega,.inr ⟨fl,S,rfl,rfl,hD⟩⟩ dV rfl
     ·refine ⟨dE,_,_,_,_,_,dw,(by decide),aQ,?_⟩
      repeat (first|refine ah ?_|refine ag ?_|refine bU ?_|refine dh ?_|refine dn ?_)
      exact bJ [0,2,3,4,5,6,7,20] (n2,d2,e,none) ⟨by simp only;omega,by simp only;omega,.inl ⟨rfl,he0⟩⟩ dV rfl
    ·repeat (first|refine ah ?_|refine aG ?_|refine ag ?_|refine aW ?_|refine aK ?_|refine bz ?_|refine aO ?_|refine ax ?_|refine au ?_|refine ak ?_|refine ae ?_|refine bn ?_)
     refine jV (rs:=[0]) aJ jH ug ?_
     refine ⟨_,rfl,rfl,by simp,s1,rfl,?_,hLq,hSq,hKq,hstq⟩
     have:=hSq.len
     have:=hLq.max.len
     simp only [*]
     rfl
   ·simp only [dB]
    have hSl:=hD.max.len
    have hSc:=hD.max.closed
    have hstq0:=hstq
    obtain ⟨v,hv⟩:∃v,oh W C nd B num den S=v:=⟨_,rfl⟩
    rw [hv]
    refine ak ?_
    refine ak ?_
    refine ae ?_
    repeat (first|refine ah ?_|refine bZ ?_|refine ag ?_|refine aW ?_|refine aI ?_)
    refine au ?_
    refine aO ?_
    have hE2:(stripL (HL.bools S),stripL (HL.ints fl))=(HL.bools S,HL.ints fl):=by rw [HL.bools_strip,HL.ints_strip]
    refine jb 1 [0,2,3,6,7,20] (⟨[(0,.pref 0 [] 0),(2,.sl nd.length (HL.bools high)),(3,.sl nd.length (HL.bools low)),(6,.pref 1 [] 0),(7,.int .i64 0),(20,.int .i64 i)],[(0,.optr [.sl nd.length (HL.ints W),.sl nd.length (HL.ints C),.sl nd.length (aZ (nd.map nl)),.int .i64 B,.int .i64 s1.steps,.sl nd.length (HL.bools s1.best),.int .i64 s1.num,.int .i64 s1.den,.int .i64 s1.value,.sl nd.length (HL.bools s1.set),.sl s1.flow.length (HL.ints s1.flow),.sl (us.map nl).length (aZ (us.map nl))]),(1,.optr [.int .i64 num,.int .i64 den,.int .i64 v,.sl nd.length (HL.bools S),.sl fl.length (HL.ints fl)])],2⟩:St) rfl (congrArg (fun c:List HV×List HV=>(⟨[(0,.pref 0 [] 0),(2,.sl nd.length (HL.bools high)),(3,.sl nd.length (HL.bools low)),(6,.pref 1 [] 0),(7,.int .i64 0),(20,.int .i64 i)],[(0,.optr [.sl nd.length (HL.ints W),.sl nd.length (HL.ints C),.sl nd.length (aZ (nd.map nl)),.int .i64 B,.int .i64 s1.steps,.sl nd.length (HL.bools s1.best),.int .i64 s1.num,.int .i64 s1.den,.int .i64 s1.value,.sl nd.length (HL.bools s1.set),.sl s1.flow.length (HL.ints s1.flow),.sl (us.map nl).length (aZ (us.map nl))]),(1,.optr [.int .i64 num,.int .i64 den,.int .i64 v,.sl nd.length c.1,.sl fl.length c.2])],2⟩:St)) hE2) ?_
    apply uM (P:=Try.prog) (fun q:Se=>(⟨[(0,.pref 0 [] 0),(2,.sl nd.length (HL.bools high)),(3,.sl nd.length (HL.bools low)),(6,.pref 1 [] 0),(20,.int .i64 i)],[(0,.optr [.sl nd.length (HL.ints W),.sl nd.length (HL.ints C),.sl nd.length (aZ (nd.map nl)),.int .i64 B,.int .i64 q.steps,.sl nd.length (HL.bools q.best),.int .i64 q.num,.int .i64 q.den,.int .i64 q.value,.sl nd.length (HL.bools q.set),.sl q.flow.length (HL.ints q.flow),.sl (us.map nl).length (aZ (us.map nl))]),(1,.optr [.int .i64 num,.int .i64 den,.int .i64 v,.sl nd.length (HL.bools S),.sl fl.length (HL.ints fl)])],2⟩:St)) (fun q:Se=>Lst W C nd B q/\q.best=s1.best/\q.steps=s1.steps)
    ·intro key
     refine ak ?_
     refine ak ?_
     refine ae ?_
     repeat (first|refine ah ?_|refine ag ?_|refine aW ?_)
     refine au ?_
     refine aA ?_
     refine ak ?_
     refine ak ?_
     refine bQ bi bi (fun _ _ _=>False) ?_
     by_cases hlt:v<s1.value
     ·repeat (first|refine ah ?_|refine aH ?_|refine ag ?_|refine az ?_|refine aC ?_|refine cZ fP rfl ?_)
      refine ax ?_
      refine ae ?_
      repeat (first|refine ah ?_|refine ag ?_|refine aC ?_|refine bM ?_|refine dn ?_|refine cZ fP rfl ?_)
      exact dO [0,2,3,6,20] _ rfl (key { s1 with num:=num,den:=den,value:=v,set:=S,flow:=fl } ⟨⟨hD.mul,hD.wok,hD.max,hD.dual,hv.symm⟩,rfl,rfl⟩)
     ·repeat (first|refine ah ?_|refine aH ?_|refine ag ?_|refine az ?_|refine aC ?_|refine cZ fP rfl ?_)
      refine au ?_
      refine aA ?_
      exact dO [0,2,3,6,20] _ rfl (key s1 ⟨hLq,rfl,rfl⟩)
    ·rintro q ⟨hLq2,hbq,hstq2⟩
     have hql:=hLq2.max.len
     have hqb:q.best.length=nd.length:=by rw [hbq];exact hSq.len
     have hof:=xx h us q S hqb hSl
     obtain ⟨b1,hb1,hb1s⟩:=vT (W:=W) (C:=C) (n:=nd.length) (B:=B) (s:=q) (set:=S)
     have hb1l:b1.length=nd.length:=by rcases hb1s with e|e<;>rw [e];exact hSl;exact hqb
     have k1:=ui (W:=W) (C:=C) (B:=B) (s:=q) hSl hqb
     have s1':=yw (W:=W) (s:=q) (set:=S) (by rw [hbq];exact hSq) hSl hSc
     rw [hb1] at hof k1 s1'
     simp only [pW,I,Bl,Gs,hlw,hlc,hSl,hnl,hqb,hql,hb1l] at hof
     have hL2:Lst W C nd B { q with best:=b1 }:=⟨hLq2.mul,hLq2.wok,hLq2.max,hLq2.dual,hLq2.val⟩
     have hS2:Sel C nd B ({ q with best:=b1 }:Se).best:=s1'
     have hK2:Keeps W C nd.length s.best ({ q with best:=b1 }:Se).best:=hKq.trans (hbq▸k1)
     have hst2:({ q with best:=b1 }:Se).steps=s.steps:=hstq2.trans hstq0
     have eq1:=LC S high (by omega) (by omega)
     have eq2:=LC S low (by omega) (by omega)
     have o5:=fD C S h.cok (by omega) (by omega)
     simp only [I,Bl,hSl,hhl,hll,hlc] at eq1 eq2 o5
     repeat (first|refine ah ?_|refine aH ?_|refine ak ?_|refine ae ?_|refine aC ?_)
     refine pz [0] [0] aJ jH ug rfl (by decide) (hof) ?_
     rintro _ _ ⟨rfl,rfl⟩ -
     refine ⟨_,_,_,_,_,dw,(by decide),wV,?_⟩
     by_cases h1:S=high
     ·rw [decide_eq_true h1] at eq1
      repeat (first|refine ah ?_|refine aH ?_|refine ag ?_|refine ak ?_|refine ae ?_|refine aC ?_)
      refine bf aJ dI (eq1) ?_
      rintro _ rfl
      refine ⟨dE,_,_,_,_,_,dw,(by decide),aQ,?_⟩
      repeat (first|refine ah ?_|refine bZ ?_|refine ag ?_|refine aK ?_|refine ax ?_)
      refine jV (rs:=[0]) aJ jH ug ?_
      refine ⟨_,rfl,rfl,by simp,{ q with best:=b1 },rfl,?_,hL2,hS2,hK2,hst2⟩
      simp only [hlw,hlc,hnl,hb1l,hql]
      rfl
     ·rw [decide_eq_false h1] at eq1
      repeat (first|refine ah ?_|refine aH ?_|refine ag ?_|refine ak ?_|refine ae ?_|refine aC ?_)
      refine bf aJ dI (eq1) ?_
      rintro _ rfl
      refine ⟨dE,_,_,_,_,_,dw,(by decide),aQ,?_⟩
      by_cases h2:S=low
      ·rw [decide_eq_true h2] at eq2
       repeat (first|refine ah ?_|refine aG ?_|refine aH ?_|refine aC ?_)
       refine bf aJ dI (eq2) ?_
       rintro _ rfl
       refine ⟨dE,_,_,_,_,_,dw,(by decide),aQ,?_⟩
       repeat (first|refine ag ?_|refine aI ?_|refine ax ?_)
       refine jV (rs:=[0]) aJ jH ug ?_
       refine ⟨_,rfl,rfl,by simp,{ q with best:=b1 },rfl,?_,hL2,hS2,hK2,hst2⟩
       simp only [hlw,hlc,hnl,hb1l,hql]
       rfl
      ·rw [decide_eq_false h2] at eq2
       repeat (first|refine ah ?_|refine aG ?_|refine aH ?_|refine aC ?_)
       refine bf aJ dI (eq2) ?_
       rintro _ rfl
       refine ⟨dE,_,_,_,_,_,dw,(by decide),aQ,?_⟩
       repeat (first|refine ag ?_|refine aI ?_|refine au ?_|refine ak ?_|refine aA ?_)
       refine bQ bi bi (Ik nd.length) ?_
       repeat (first|refine ah ?_|refine aH ?_|refine aC ?_|refine cZ fP rfl ?_)
       refine bG aJ dI (o5.mono fun r h=>⟨C,S,rfl,h⟩) ⟨_,⟨C,S,rfl,rfl⟩,rfl⟩ ?_
       rintro r hr -
       obtain rfl:=gz hr
       refine ⟨dE,_,_,_,_,_,dw,(by decide),aQ,?_⟩
       by_cases hc:wS C S nd.length<=B
       ·repeat (first|refine ah ?_|refine aH ?_|refine ag ?_|refine bz ?_|refine ax ?_|refine ae ?_|refine dh ?_|refine dU ?_|refine aC ?_|refine cZ fP rfl ?_)
        exact bJ [0,2,3,20] (i+1,{ q with best:=b1 },high,S) ⟨by simp only;omega,hL2,hS2,hK2,hst2,hhl,hSl⟩ dV (by simp only [hb1l,hql];rfl)
       ·repeat (first|refine ah ?_|refine aH ?_|refine ag ?_|refine bz ?_|refine au ?_|refine ae ?_|refine dh ?_|refine dU ?_|refine aC ?_|refine cZ fP rfl ?_)
        exact bJ [0,2,3,20] (i+1,{ q with best:=b1 },S,low) ⟨by simp only;omega,hL2,hS2,hK2,hst2,hSl,hll⟩ dV (by simp only [hb1l,hql];rfl)
 ·obtain rfl:i=30:=by omega
  repeat (first|refine ag ?_|refine az ?_|refine aO ?_|refine au ?_|refine ak ?_|refine ae ?_)
  refine lJ (rs:=[0]) aJ jH ug ?_
  refine ⟨_,rfl,rfl,by simp,s1,rfl,?_,hLq,hSq,hKq,hstq⟩
  have:=hSq.len
  have:=hLq.max.len
  simp only [*]
  rfl
end Go.Proofs.Yteamkjblpglliaa
