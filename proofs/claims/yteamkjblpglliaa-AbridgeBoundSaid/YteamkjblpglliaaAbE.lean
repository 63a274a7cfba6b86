import Derived.Test.YteamkjblpglliaaAbD
import Derived.Test.YteamkjblpglliaaAbX
import Derived.Test.YteamkjblpglliaaClRBnd
set_option linter.unusedSimpArgs false
set_option linter.unusedVariables false
namespace Go.Proofs.Yteamkjblpglliaa
open Go.RowKit Go.SL Go.HL
structure Sn where
 set:List Bool
 worth:Int
 cost:Int
 num:Int
 den:Int
 flow:List Int
 bound:Int
 exact:Bool
def JS (s:Sn):List HV:=[Bl s.set,.int .i64 s.worth,.int .i64 s.cost,.int .i64 s.num,.int .i64 s.den,I s.flow,.int .i64 s.bound,.bool s.exact]
structure Qy (W C:List Int) (nd:List (List Nat)) (B:Int) (s:Sn):Prop where
 sel:Sel C nd B s.set
 cost:wS C s.set nd.length=s.cost
 worth:wS W s.set nd.length=s.worth
 mul:Mul s.num s.den
 wok:WOK (ik W C s.num s.den)
def QD (W C:List Int) (nd:List (List Nat)) (B:Int) (s:Sn) (e:Int):Prop :=
 (¬ Qy W C nd B s/\e=24)\/(Qy W C nd B s/\∃x y,BoundR (ik W C s.num s.den) nd s.flow x y/\((y=0/\(x+s.num * B) / s.den=s.bound/\e=0)\/(¬ (y=0/\(x+s.num * B) / s.den=s.bound)/\e=24)))
def chD (n:Nat) (f0:FuncId) (q:Bool):FuncId->List HV->HV->Prop:=fun f xs r=>(f=f0->r=.bool q)/\(f≠f0->Bj n f xs r)
theorem ve {n:Nat} {f0 f:FuncId} {q:Bool} {L:List Int} {X:List Bool} {r:HV} (hne:f≠f0):chD n f0 q f [.sl n (HL.ints L),.sl n (HL.bools X)] r <-> r=.int .i64 (wS L X n) :=
 ⟨fun h=>dP (h.2 hne),fun h=>⟨fun e=>absurd e hne,fun _=>⟨L,X,rfl,h⟩⟩⟩
theorem chD_q {n:Nat} {f0:FuncId} {q:Bool} {xs:List HV} {r:HV}:chD n f0 q f0 xs r <-> r=.bool q:=⟨fun h=>h.1 rfl,fun h=>⟨fun _=>h,fun e=>absurd rfl e⟩⟩
def U2 (n:Nat) (f1 f2:FuncId) (p1 p2:Prop):FuncId->List HV->HV->Prop:=fun f xs r=>(f=f1->∃b,r=.bool b/\(b=true <-> p1))/\(f≠f1->f=f2->∃b,r=.bool b/\(b=true <-> p2))/\(f≠f1->f≠f2->Bj n f xs r)
theorem MM {n:Nat} {f1 f2:FuncId} {p1 p2:Prop} {xs:List HV} {r:HV} (_:f1≠f2):U2 n f1 f2 p1 p2 f1 xs r <-> ∃b,r=.bool b/\(b=true <-> p1) :=
 ⟨fun h=>h.1 rfl,fun h=>⟨fun _=>h,fun e=>absurd rfl e,fun e=>absurd rfl e⟩⟩
theorem Lt {n:Nat} {f1 f2:FuncId} {p1 p2:Prop} {xs:List HV} {r:HV} (hne:f1≠f2):U2 n f1 f2 p1 p2 f2 xs r <-> ∃b,r=.bool b/\(b=true <-> p2) :=
 ⟨fun h=>h.2.1 (fun e=>hne e.symm) rfl,fun h=>⟨fun e=>absurd e.symm hne,fun _ _=>h,fun _ e=>absurd rfl e⟩⟩
theorem vJ {n:Nat} {f1 f2 f:FuncId} {p1 p2:Prop} {L:List Int} {X:List Bool} {r:HV} (h1:f≠f1) (h2:f≠f2):U2 n f1 f2 p1 p2 f [.sl n (HL.ints L),.sl n (HL.bools X)] r <-> r=.int .i64 (wS L X n) :=
 ⟨fun h=>dP (h.2.2 h1 h2),fun h=>⟨fun e=>absurd e h1,fun _ e=>absurd e h2,fun _ _=>⟨L,X,rfl,h⟩⟩⟩
open Classical in
theorem TE {n:Nat} {f1 f2:FuncId} {p2:Prop} {xs:List HV} (hne:f1≠f2) (p1:Prop) (_:p2=p2):∃r,U2 n f1 f2 p1 p2 f1 xs r/\r.deep=[] :=
 ⟨.bool (decide p1),(MM hne).2 ⟨_,rfl,by simp⟩,rfl⟩
open Classical in
theorem Rj {n:Nat} {f1 f2:FuncId} {p1:Prop} {xs:List HV} (hne:f1≠f2) (p2:Prop) (_:p1=p1):∃r,U2 n f1 f2 p1 p2 f2 xs r/\r.deep=[] :=
 ⟨.bool (decide p2),(Lt hne).2 ⟨_,rfl,by simp⟩,rfl⟩
theorem BoundR.bd {w:List Int} {nd:List (List Nat)} {bad:List Bool} {fl:List Int} {x y:Int} (g:Gr nd bad) (hw:WOK w) (h:BoundR w nd fl x y) : -100000000000000000<=x/\x<=100000000000000000:=by
 have hv:=mM g hw
 have hsz:=g.size
 have hNl:=kU g w
 have hN2:nd.length * nd.length<=256 * 256:=Nat.mul_le_mul hsz hsz
 have hp:=uO hw nd.length
 rcases h with ⟨_,rfl,_⟩|⟨_,v,e,hR,h⟩
 ·omega
 ·have hbd:=hR.bd (fun e he=>(hv.all e he).2.2.2.2.2.2) (by omega)
  rcases h with ⟨_,rfl,_⟩|⟨_,rfl,_⟩ <;> omega
set_option maxHeartbeats 8000000 in
theorem DW {W C:List Int} {nd:List (List Nat)} {B:Int} (h:Pb W C nd B) (s:Sn) (hs:s.set.length<=9223372036854775807):HT Try.prog 26 [.agg (jX W C nd B),.agg (JS s)] (fun r=>∃e,r=.int .i64 e/\QD W C nd B s e):=by
 have hsz:=h.g.size
 have hlw:=h.lw
 have hlc:=h.lc
 have hB:=h.b
 have hnl:(nd.map nl).length=nd.length:=by simp
 have hav:=sF h
 have hcl:=zn (nd.map nl) s.set (by omega) hs (fun i=>by rw [dM,fE];have:=h.g.len i;omega)
 simp only [I,Gs,Bl,jX,hlw,hlc,hnl] at hav hcl
 have out:¬ Qy W C nd B s->∃e:Int,HV.int .i64 24=.int .i64 e/\QD W C nd B s e:=fun h=>⟨24,rfl,.inl ⟨h,rfl⟩⟩
 refine HT.of rfl ae1 (Nat.le_of_ble_eq_true rfl) ?_
 unfold c26
 simp only [JS,I,Gs,Bl,jX,aO,Nat.reduceAdd,hlw,hlc,hnl]
 repeat (first|refine ah ?_|refine ag ?_|refine ak ?_|refine ae ?_|refine bV ?_|refine eu ?_)
 refine bg aK dO (hav) ?_
 rintro _ rfl
 refine ⟨dF,_,_,_,_,_,dA,(by decide),aQ,?_⟩
 repeat (first|refine ag ?_|refine au ?_|refine ak ?_|refine aB ?_|refine fD (by rfl) ?_)
 refine bU aU aU (chD nd.length 28 (jg (nd.map nl) s.set)) ?_
 repeat (first|refine aF ?_|refine aA ?_)
 refine bF aK dO (hcl.mono fun r h=>chD_q.2 h) ⟨_,chD_q.2 rfl,rfl⟩ ?_
 rintro r hr -
 obtain rfl:=chD_q.1 hr
 refine ⟨dF,_,_,_,_,_,dA,(by decide),aQ,?_⟩
 cases hcb:jg (nd.map nl) s.set with
 | false =>
  repeat (first|refine ah ?_|refine bT ?_|refine ag ?_|refine aJ ?_|refine ax ?_|refine ak ?_|refine ae ?_|refine iL (by rfl) ?_)
  refine ay ?_
  refine out fun hA=>?_
  rw [(kS (oP h.g hA.sel.len)).2 (closedN_Y.2 hA.sel.closed)] at hcb
  cases hcb
 | true =>
  have hf:jW (nd.map nl) s.set=true:=by
   cases hf:jW (nd.map nl) s.set with
   | true=>rfl
   | false=>unfold jg at hcb;rw [hf] at hcb;cases hcb
  have hl:s.set.length=nd.length:=by rw [<- (rC hf).1,hnl]
  have hC:=closedN_Y.1 ((kS hf).1 hcb)
  have o1:=fA C s.set h.cok (by omega) (by omega)
  have o2:=fA W s.set h.wok (by omega) (by omega)
  simp only [I,Bl,hlc,hlw,hl] at o1 o2
  rw [hl]
  repeat (first|refine ah ?_|refine aH ?_|refine aF ?_|refine fD (by rfl) ?_|refine aA ?_)
  refine bF aK dO (o1.mono fun r h=>(ve (by decide)).2 h) ⟨_,(ve (by decide)).2 rfl,rfl⟩ ?_
  rintro r hr -
  obtain rfl:=(ve (by decide)).1 hr
  refine ⟨dF,_,_,_,_,_,dA,(by decide),aQ,?_⟩
  by_cases hc:wS C s.set nd.length=s.cost
  ·by_cases hcB:s.cost<=B
   ·repeat (first|refine ah ?_|refine aH ?_|refine aF ?_|refine aY ?_|refine aI ?_|refine bu ?_|refine aA ?_)
    refine bF aK dO (o2.mono fun r h=>(ve (by decide)).2 h) ⟨_,(ve (by decide)).2 rfl,rfl⟩ ?_
    rintro r hr -
    obtain rfl:=(ve (by decide)).1 hr
    refine ⟨dF,_,_,_,_,_,dA,(by decide),aQ,?_⟩
    by_cases hwo:wS W s.set nd.length=s.worth
    ·by_cases hm:Mul s.num s.den
     ·have hwt:=tJ h s.num s.den hm
      simp only [I,Gs,jX,hlw,hlc,hnl] at hwt
      repeat (first|refine aH ?_|refine aF ?_|refine ag ?_|refine aY ?_|refine aI ?_|refine au ?_|refine ak ?_|refine ae ?_|refine aB ?_|refine aA ?_|refine bV ?_)
      refine bg aK dO (hwt) ?_
      rintro _ (⟨hwk,rfl⟩|⟨hwk,rfl⟩)
      ·have hL:=mQ W C s.num s.den
       rw [hlw] at hL
       have hbo:=Jf (ik W C s.num s.den) nd _ s.flow h.g hwk hL
       simp only [I,Gs,hnl,hL] at hbo
       have hA:Qy W C nd B s:=⟨⟨hl,hC,by omega⟩,hc,hwo,hm,hwk⟩
       refine ⟨dF,_,_,_,_,_,dA,(by decide),aQ,?_⟩
       repeat (first|refine ah ?_|refine aF ?_|refine ag ?_|refine aY ?_|refine cu ?_|refine au ?_|refine ak ?_|refine ae ?_|refine aB ?_|refine aA ?_)
       refine bg aK dO (hbo) ?_
       rintro _ ⟨x,y,rfl,hBo⟩
       have hx:=BoundR.bd h.g hwk hBo
       have bb:=rQ (a:=s.num) (b:=B) hm.1.1 hm.1.2 hB.1 hB.2
       refine ⟨dF,_,_,_,_,_,dA,(by decide),aQ,?_⟩
       by_cases hy:y=0
       ·repeat (first|refine ah ?_|refine ag ?_|refine cu ?_|refine ak ?_)
        refine bU aU aU (fun _ _ r=>r=.int .i64 ((x+s.num * B) / s.den)) ?_
        repeat (first|refine ah ?_|refine aH ?_|refine aF ?_|refine aY ?_|refine bM ?_|refine mf (by rfl) (by rfl) qh ?_|refine aA ?_)
        refine bF aK dO (Az (x+s.num * B) s.den (by have:=hm.2;omega) (by have:=hm.2;omega) (by omega) (by omega)) ⟨_,rfl,rfl⟩ ?_
        rintro _ rfl -
        refine ⟨dF,_,_,_,_,_,dA,(by decide),aQ,?_⟩
        by_cases hbd:(x+s.num * B) / s.den=s.bound
        ·repeat (first|refine ah ?_|refine aH ?_|refine aF ?_|refine ag ?_|refine aY ?_|refine aI ?_|refine au ?_|refine ak ?_|refine ae ?_|refine aB ?_|refine aA ?_)
         refine ay ?_
         exact ⟨0,rfl,.inr ⟨hA,x,y,hBo,.inl ⟨hy,hbd,rfl⟩⟩⟩
        ·repeat (first|refine ah ?_|refine aH ?_|refine aF ?_|refine ag ?_|refine aY ?_|refine aI ?_|refine ax ?_|refine ak ?_|refine ae ?_|refine aA ?_)
         refine ay ?_
         exact ⟨24,rfl,.inr ⟨hA,x,y,hBo,.inr ⟨fun h=>hbd h.2,rfl⟩⟩⟩
       ·repeat (first|refine ah ?_|refine ag ?_|refine cu ?_|refine ak ?_)
        refine bU aU aU (fun _ _ r=>False) ?_
        repeat (first|refine ah ?_|refine bT ?_|refine ag ?_|refine aY ?_|refine aJ ?_|refine ax ?_|refine ak ?_|refine ae ?_)
        refine ay ?_
        exact ⟨24,rfl,.inr ⟨hA,x,y,hBo,.inr ⟨fun h=>hy h.1,rfl⟩⟩⟩
      ·refine ⟨dF,_,_,_,_,_,dA,(by decide),aQ,?_⟩
       repeat (first|refine ah ?_|refine ag ?_|refine aY ?_|refine cu ?_|refine ax ?_|refine ak ?_|refine ae ?_)
       refine ay ?_
       exact out fun hA=>hwk hA.wok
     ·have hwt:=qV h s.num s.den hm
      simp only [I,Gs,jX,hlw,hlc,hnl] at hwt
      repeat (first|refine aH ?_|refine aF ?_|refine ag ?_|refine aY ?_|refine aI ?_|refine au ?_|refine ak ?_|refine ae ?_|refine aB ?_|refine aA ?_|refine bV ?_)
      refine bg aK dO (hwt) ?_
      rintro _ rfl
      refine ⟨dF,_,_,_,_,_,dA,(by decide),aQ,?_⟩
      repeat (first|refine ah ?_|refine ag ?_|refine aY ?_|refine cu ?_|refine ax ?_|refine ak ?_|refine ae ?_)
      refine ay ?_
      exact out fun hA=>hm hA.mul
    ·repeat (first|refine ah ?_|refine aH ?_|refine aF ?_|refine ag ?_|refine aY ?_|refine aI ?_|refine ax ?_|refine ak ?_|refine ae ?_|refine aA ?_)
     refine ay ?_
     exact out fun hA=>hwo hA.worth
   ·repeat (first|refine ah ?_|refine aH ?_|refine bT ?_|refine aF ?_|refine ag ?_|refine aY ?_|refine aJ ?_|refine aI ?_|refine ax ?_|refine ak ?_|refine ae ?_|refine bu ?_|refine aA ?_)
    refine ay ?_
    exact out fun hA=>hcB (by rw [<- hc];exact hA.sel.cost)
  ·repeat (first|refine ah ?_|refine aH ?_|refine bT ?_|refine aF ?_|refine ag ?_|refine aY ?_|refine aJ ?_|refine aI ?_|refine ax ?_|refine ak ?_|refine ae ?_|refine aA ?_)
   refine ay ?_
   exact out fun hA=>hc hA.cost
set_option maxHeartbeats 8000000 in
theorem Jy {W C:List Int} {nd:List (List Nat)} {B:Int} (h:Pb W C nd B) (s:Sn) (hs:s.set.length<=9223372036854775807):HT Try.prog 23 [.agg (jX W C nd B),.agg (JS s)] (fun r=>∃e,r=.int .i64 e/\QD W C nd B s e):=by
 have hsz:=h.g.size
 have hlw:=h.lw
 have hlc:=h.lc
 have hB:=h.b
 have hnl:(nd.map nl).length=nd.length:=by simp
 have hav:=BX h
 have hse:=yM h s.set hs
 simp only [I,Gs,Bl,jX,hlw,hlc,hnl] at hav hse
 have out:¬ Qy W C nd B s->∃e:Int,HV.int .i64 24=.int .i64 e/\QD W C nd B s e:=fun h=>⟨24,rfl,.inl ⟨h,rfl⟩⟩
 refine HT.of rfl adF (Nat.le_of_ble_eq_true rfl) ?_
 unfold c23
 simp only [JS,I,Gs,Bl,jX,aO,Nat.reduceAdd,hlw,hlc,hnl]
 repeat (first|refine ah ?_|refine ag ?_|refine ak ?_|refine ae ?_|refine bV ?_|refine eu ?_)
 refine bg aK dO (hav) ?_
 rintro _ rfl
 refine ⟨dF,_,_,_,_,_,dA,(by decide),aQ,?_⟩
 repeat (first|refine ag ?_|refine au ?_|refine ak ?_|refine aB ?_|refine fD (by rfl) ?_)
 refine bU aU aU (U2 nd.length 30 37 (Sel C nd B s.set) (Mul s.num s.den)) ?_
 repeat (first|refine aF ?_|refine aA ?_|refine bV ?_)
 refine bF aK dO (hse.mono fun r h=>(MM (by decide)).2 h) (TE (by decide) _ rfl) ?_
 rintro r hr -
 obtain ⟨b,rfl,hb⟩:=(MM (by decide)).1 hr
 refine ⟨dF,_,_,_,_,_,dA,(by decide),aQ,?_⟩
 cases b with
 | false =>
  repeat (first|refine ah ?_|refine bT ?_|refine ag ?_|refine aJ ?_|refine ax ?_|refine ak ?_|refine ae ?_|refine iL (by rfl) ?_)
  refine ay ?_
  exact out fun hA=>absurd (hb.2 hA.sel) (by decide)
 | true =>
  have hSel:=hb.1 rfl
  have hl:=hSel.len
  have o1:=iR C s.set h.cok (by omega) (by omega)
  have o2:=iR W s.set h.wok (by omega) (by omega)
  simp only [I,Bl,hlc,hlw,hl] at o1 o2
  rw [hl]
  repeat (first|refine ah ?_|refine aH ?_|refine aF ?_|refine fD (by rfl) ?_|refine aA ?_)
  refine bF aK dO (o2.mono fun r h=>(vJ (by decide) (by decide)).2 h) ⟨_,(vJ (by decide) (by decide)).2 rfl,rfl⟩ ?_
  rintro r hr -
  obtain rfl:=(vJ (by decide) (by decide)).1 hr
  refine ⟨dF,_,_,_,_,_,dA,(by decide),aQ,?_⟩
  by_cases hwo:wS W s.set nd.length=s.worth
  ·repeat (first|refine ah ?_|refine aH ?_|refine aF ?_|refine aY ?_|refine aI ?_|refine aA ?_)
   refine bF aK dO (o1.mono fun r h=>(vJ (by decide) (by decide)).2 h) ⟨_,(vJ (by decide) (by decide)).2 rfl,rfl⟩ ?_
   rintro r hr -
   obtain rfl:=(vJ (by decide) (by decide)).1 hr
   refine ⟨dF,_,_,_,_,_,dA,(by decide),aQ,?_⟩
   by_cases hc:wS C s.set nd.length=s.cost
   ·repeat (first|refine ah ?_|refine aH ?_|refine aF ?_|refine aY ?_|refine aI ?_|refine aA ?_)
    refine bF aK dO ((Og s.num s.den).mono fun r h=>(Lt (by decide)).2 h) (Rj (by decide) _ rfl) ?_
    rintro r hr -
    obtain ⟨b,rfl,hb2⟩:=(Lt (by decide)).1 hr
    refine ⟨dF,_,_,_,_,_,dA,(by decide),aQ,?_⟩
    cases b with
    | false =>
     repeat (first|refine ah ?_|refine aH ?_|refine ag ?_|refine aI ?_|refine ax ?_|refine ak ?_|refine ae ?_|refine iL (by rfl) ?_)
     refine ay ?_
     exact out fun hA=>absurd (hb2.2 hA.mul) (by decide)
    | true =>
     have hm:=hb2.1 rfl
     have hwt:=D6 h s.num s.den hm
     simp only [I,Gs,jX,hlw,hlc,hnl] at hwt
     repeat (first|refine aH ?_|refine aF ?_|refine ag ?_|refine aI ?_|refine au ?_|refine ak ?_|refine ae ?_|refine aB ?_|refine fD (by rfl) ?_|refine aA ?_|refine bV ?_)
     refine bg aK dO (hwt) ?_
     rintro _ (⟨hwk,rfl⟩|⟨hwk,rfl⟩)
     ·have hL:=mQ W C s.num s.den
      rw [hlw] at hL
      have hbo:=I9 (ik W C s.num s.den) nd _ s.flow h.g hwk hL
      simp only [I,Gs,hnl,hL] at hbo
      have hA:Qy W C nd B s:=⟨hSel,hc,hwo,hm,hwk⟩
      refine ⟨dF,_,_,_,_,_,dA,(by decide),aQ,?_⟩
      repeat (first|refine ah ?_|refine aF ?_|refine ag ?_|refine cu ?_|refine au ?_|refine ak ?_|refine ae ?_|refine aB ?_|refine fD (by rfl) ?_|refine aA ?_)
      refine bg aK dO (hbo) ?_
      rintro _ ⟨x,y,rfl,hBo⟩
      have hx:=BoundR.bd h.g hwk hBo
      have bb:=rQ (a:=s.num) (b:=B) hm.1.1 hm.1.2 hB.1 hB.2
      refine ⟨dF,_,_,_,_,_,dA,(by decide),aQ,?_⟩
      repeat (first|refine ah ?_|refine ag ?_|refine cu ?_|refine ak ?_)
      refine bU aU aU (fun _ _ r=>r=.int .i64 ((x+s.num * B) / s.den)) ?_
      by_cases hy:y=0
      ·repeat (first|refine ah ?_|refine aH ?_|refine aF ?_|refine aY ?_|refine bM ?_|refine mf (by rfl) (by rfl) qh ?_|refine aA ?_)
       refine bF aK dO (KP (x+s.num * B) s.den (by have:=hm.2;omega) (by have:=hm.2;omega) (by omega) (by omega)) ⟨_,rfl,rfl⟩ ?_
       rintro _ rfl -
       refine ⟨dF,_,_,_,_,_,dA,(by decide),aQ,?_⟩
       by_cases hbd:s.bound=(x+s.num * B) / s.den
       ·repeat (first|refine ah ?_|refine aH ?_|refine ag ?_|refine aY ?_|refine aI ?_|refine au ?_|refine ak ?_|refine ae ?_|refine aB ?_)
        refine ay ?_
        exact ⟨0,rfl,.inr ⟨hA,x,y,hBo,.inl ⟨hy,hbd.symm,rfl⟩⟩⟩
       ·repeat (first|refine ah ?_|refine aH ?_|refine ag ?_|refine aY ?_|refine aI ?_|refine ax ?_|refine ak ?_|refine ae ?_)
        refine ay ?_
        exact ⟨24,rfl,.inr ⟨hA,x,y,hBo,.inr ⟨fun h=>hbd h.2.symm,rfl⟩⟩⟩
      ·repeat (first|refine ah ?_|refine bT ?_|refine ag ?_|refine aY ?_|refine aJ ?_|refine ax ?_|refine ak ?_|refine ae ?_)
       refine ay ?_
       exact ⟨24,rfl,.inr ⟨hA,x,y,hBo,.inr ⟨fun h=>hy h.1,rfl⟩⟩⟩
     ·refine ⟨dF,_,_,_,_,_,dA,(by decide),aQ,?_⟩
      repeat (first|refine ah ?_|refine ag ?_|refine cu ?_|refine ax ?_|refine ak ?_|refine ae ?_|refine iL (by rfl) ?_)
      refine ay ?_
      exact out fun hA=>hwk hA.wok
   ·repeat (first|refine ah ?_|refine aH ?_|refine bT ?_|refine aF ?_|refine ag ?_|refine aY ?_|refine aJ ?_|refine aI ?_|refine ax ?_|refine ak ?_|refine ae ?_|refine aA ?_)
    refine ay ?_
    exact out fun hA=>hc hA.cost
  ·repeat (first|refine ah ?_|refine aH ?_|refine bT ?_|refine aF ?_|refine ag ?_|refine aY ?_|refine aJ ?_|refine aI ?_|refine ax ?_|refine ak ?_|refine ae ?_|refine aA ?_)
   refine ay ?_
   exact out fun hA=>hwo hA.worth
end Go.Proofs.Yteamkjblpglliaa
