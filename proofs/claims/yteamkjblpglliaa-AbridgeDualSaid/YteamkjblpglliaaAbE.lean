import Derived.Test.YteamkjblpglliaaClHull
import Derived.Test.YteamkjblpglliaaAbX
import Derived.Test.YteamkjblpglliaaClRBnd
set_option linter.unusedSimpArgs false
set_option linter.unusedVariables false
namespace Go.Proofs.Yteamkjblpglliaa
open Go.RowKit Go.SL Go.HL
structure Sn where
 set:List Bool
 worth:Int
 cost:Int
 num:Int
 den:Int
 flow:List Int
 bound:Int
 exact:Bool
def Ai (s:Sn):List HV:=[Bl s.set,.int .i64 s.worth,.int .i64 s.cost,.int .i64 s.num,.int .i64 s.den,I s.flow,.int .i64 s.bound,.bool s.exact]
structure Qe (W C:List Int) (nd:List (List Nat)) (B:Int) (s:Sn):Prop where
 sel:Sel C nd B s.set
 cost:wS C s.set nd.length=s.cost
 worth:wS W s.set nd.length=s.worth
 mul:Mul s.num s.den
 wok:WOK (gB W C s.num s.den)
def SnE (W C:List Int) (nd:List (List Nat)) (B:Int) (s:Sn) (e:Int):Prop :=
 (¬ Qe W C nd B s/\e=24)\/(Qe W C nd B s/\∃x y,BoundR (gB W C s.num s.den) nd s.flow x y/\((y=0/\(x+s.num*B) / s.den=s.bound/\e=0)\/(¬ (y=0/\(x+s.num*B) / s.den=s.bound)/\e=24)))
def chD (n:Nat) (f0:FuncId) (q:Bool):FuncId->List HV->HV->Prop:=fun f xs r=>(f=f0->r=.bool q)/\(f≠f0->Ik n f xs r)
theorem vN {n:Nat} {f0 f:FuncId} {q:Bool} {L:List Int} {X:List Bool} {r:HV} (hne:f≠f0):chD n f0 q f [.sl n (HL.ints L),.sl n (HL.bools X)] r <-> r=.int .i64 (wS L X n) :=
 ⟨fun h=>gz (h.2 hne),fun h=>⟨fun e=>absurd e hne,fun _=>⟨L,X,rfl,h⟩⟩⟩
theorem chD_q {n:Nat} {f0:FuncId} {q:Bool} {xs:List HV} {r:HV}:chD n f0 q f0 xs r <-> r=.bool q:=⟨fun h=>h.1 rfl,fun h=>⟨fun _=>h,fun e=>absurd rfl e⟩⟩
def U6 (n:Nat) (f1 f2:FuncId) (p1 p2:Prop):FuncId->List HV->HV->Prop:=fun f xs r=>(f=f1->∃b,r=.bool b/\(b=true <-> p1))/\(f≠f1->f=f2->∃b,r=.bool b/\(b=true <-> p2))/\(f≠f1->f≠f2->Ik n f xs r)
theorem Lr {n:Nat} {f1 f2:FuncId} {p1 p2:Prop} {xs:List HV} {r:HV} (_:f1≠f2):U6 n f1 f2 p1 p2 f1 xs r <-> ∃b,r=.bool b/\(b=true <-> p1) :=
 ⟨fun h=>h.1 rfl,fun h=>⟨fun _=>h,fun e=>absurd rfl e,fun e=>absurd rfl e⟩⟩
theorem JX {n:Nat} {f1 f2:FuncId} {p1 p2:Prop} {xs:List HV} {r:HV} (hne:f1≠f2):U6 n f1 f2 p1 p2 f2 xs r <-> ∃b,r=.bool b/\(b=true <-> p2) :=
 ⟨fun h=>h.2.1 (fun e=>hne e.symm) rfl,fun h=>⟨fun e=>absurd e.symm hne,fun _ _=>h,fun _ e=>absurd rfl e⟩⟩
theorem wo {n:Nat} {f1 f2 f:FuncId} {p1 p2:Prop} {L:List Int} {X:List Bool} {r:HV} (h1:f≠f1) (h2:f≠f2):U6 n f1 f2 p1 p2 f [.sl n (HL.ints L),.sl n (HL.bools X)] r <-> r=.int .i64 (wS L X n) :=
 ⟨fun h=>gz (h.2.2 h1 h2),fun h=>⟨fun e=>absurd e h1,fun _ e=>absurd e h2,fun _ _=>⟨L,X,rfl,h⟩⟩⟩
open Classical in
theorem Tn {n:Nat} {f1 f2:FuncId} {p2:Prop} {xs:List HV} (hne:f1≠f2) (p1:Prop) (_:p2=p2):∃r,U6 n f1 f2 p1 p2 f1 xs r/\r.deep=[] :=
 ⟨.bool (decide p1),(Lr hne).2 ⟨_,rfl,by simp⟩,rfl⟩
open Classical in
theorem TS {n:Nat} {f1 f2:FuncId} {p1:Prop} {xs:List HV} (hne:f1≠f2) (p2:Prop) (_:p1=p1):∃r,U6 n f1 f2 p1 p2 f2 xs r/\r.deep=[] :=
 ⟨.bool (decide p2),(JX hne).2 ⟨_,rfl,by simp⟩,rfl⟩
theorem BoundR.eq2 {w:List Int} {nd:List (List Nat)} {fl:List Int} {x y x' y':Int} (h:BoundR w nd fl x y) (h':BoundR w nd fl x' y'):x=x'/\y=y':=by
 rcases h with ⟨a,rfl,rfl⟩|⟨a,v,e,hR,h⟩<;>rcases h' with ⟨a',rfl,rfl⟩|⟨a',v',e',hR',h'⟩
 ·exact ⟨rfl,rfl⟩
 ·exact absurd a' a
 ·exact absurd a a'
 ·obtain ⟨rfl,rfl⟩:=hR.eq hR'
  rcases h with ⟨h1,h2,h3⟩|⟨h1,h2,h3⟩<;>rcases h' with ⟨h1',h2',h3'⟩|⟨h1',h2',h3'⟩
  ·exact ⟨by rw [h2,h2'],by rw [h3,h3']⟩
  ·exact absurd h1' h1
  ·exact absurd h1 h1'
  ·exact ⟨by rw [h2,h2'],by rw [h3,h3']⟩
theorem BoundR.bd {w:List Int} {nd:List (List Nat)} {bad:List Bool} {fl:List Int} {x y:Int} (g:Gr nd bad) (hw:WOK w) (h:BoundR w nd fl x y) : -100000000000000000<=x/\x<=100000000000000000:=by
 have hv:=nU g hw
 have hsz:=g.size
 have hNl:=jX g w
 have hN2:nd.length*nd.length<=256*256:=Nat.mul_le_mul hsz hsz
 have hp:=uG hw nd.length
 rcases h with ⟨_,rfl,_⟩|⟨_,v,e,hR,h⟩
 ·omega
 ·have hbd:=hR.bd (fun e he=>(hv.all e he).2.2.2.2.2.2) (by omega)
  rcases h with ⟨_,rfl,_⟩|⟨_,rfl,_⟩<;>omega
set_option maxHeartbeats 8000000 in
theorem kX {W C:List Int} {nd:List (List Nat)} {B:Int} (h:Pb W C nd B) (s:Sn) (hs:s.set.length<=9223372036854775807):HT Try.prog 26 [.agg (jD W C nd B),.agg (Ai s)] (fun r=>∃e,r=.int .i64 e/\SnE W C nd B s e):=by
 have hsz:=h.g.size
 have hlw:=h.lw
 have hlc:=h.lc
 have hB:=h.b
 have hnl:(nd.map nl).length=nd.length:=by simp
 have hav:=og h
 have hcl:=Jk (nd.map nl) s.set (by omega) hs (fun i=>by rw [dM,fH];have:=h.g.len i;omega)
 simp only [I,Gs,Bl,jD,hlw,hlc,hnl] at hav hcl
 have out:¬ Qe W C nd B s->∃e:Int,HV.int .i64 24=.int .i64 e/\SnE W C nd B s e:=fun h=>⟨24,rfl,.inl ⟨h,rfl⟩⟩
 refine HT.of rfl aeW (Nat.le_of_ble_eq_true rfl) ?_
 unfold c26
 simp only [Ai,I,Gs,Bl,jD,aP,Nat.reduceAdd,hlw,hlc,hnl]
 repeat (first|refine ah ?_|refine ag ?_|refine ak ?_|refine ae ?_|refine bM ?_|refine dX ?_)
 refine bf aJ dI (hav) ?_
 rintro _ rfl
 refine ⟨dE,_,_,_,_,_,dw,(by decide),aQ,?_⟩
 repeat (first|refine ag ?_|refine au ?_|refine ak ?_|refine aA ?_|refine dR (by rfl) ?_)
 refine bQ bi bi (chD nd.length 28 (jf (nd.map nl) s.set)) ?_
 repeat (first|refine aH ?_|refine aC ?_)
 refine bG aJ dI (hcl.mono fun r h=>chD_q.2 h) ⟨_,chD_q.2 rfl,rfl⟩ ?_
 rintro r hr -
 obtain rfl:=chD_q.1 hr
 refine ⟨dE,_,_,_,_,_,dw,(by decide),aQ,?_⟩
 cases hcb:jf (nd.map nl) s.set with
 | false =>
  repeat (first|refine ah ?_|refine bZ ?_|refine ag ?_|refine aK ?_|refine ax ?_|refine ak ?_|refine ae ?_|refine gZ (by rfl) ?_)
  refine ay ?_
  refine out fun hA=>?_
  rw [(jL (sD h.g hA.sel.len)).2 (closedN_Y.2 hA.sel.closed)] at hcb
  cases hcb
 | true =>
  have hf:kw (nd.map nl) s.set=true:=by
   cases hf:kw (nd.map nl) s.set with
   | true=>rfl
   | false=>unfold jf at hcb;rw [hf] at hcb;cases hcb
  have hl:s.set.length=nd.length:=by rw [<- (rV hf).1,hnl]
  have hC:=closedN_Y.1 ((jL hf).1 hcb)
  have o1:=fD C s.set h.cok (by omega) (by omega)
  have o2:=fD W s.set h.wok (by omega) (by omega)
  simp only [I,Bl,hlc,hlw,hl] at o1 o2
  rw [hl]
  repeat (first|refine ah ?_|refine aG ?_|refine aH ?_|refine dR (by rfl) ?_|refine aC ?_)
  refine bG aJ dI (o1.mono fun r h=>(vN (by decide)).2 h) ⟨_,(vN (by decide)).2 rfl,rfl⟩ ?_
  rintro r hr -
  obtain rfl:=(vN (by decide)).1 hr
  refine ⟨dE,_,_,_,_,_,dw,(by decide),aQ,?_⟩
  by_cases hc:wS C s.set nd.length=s.cost
  ·by_cases hcB:s.cost<=B
   ·repeat (first|refine ah ?_|refine aG ?_|refine aH ?_|refine aW ?_|refine aI ?_|refine bn ?_|refine aC ?_)
    refine bG aJ dI (o2.mono fun r h=>(vN (by decide)).2 h) ⟨_,(vN (by decide)).2 rfl,rfl⟩ ?_
    rintro r hr -
    obtain rfl:=(vN (by decide)).1 hr
    refine ⟨dE,_,_,_,_,_,dw,(by decide),aQ,?_⟩
    by_cases hwo:wS W s.set nd.length=s.worth
    ·by_cases hm:Mul s.num s.den
     ·have hwt:=uj h s.num s.den hm
      simp only [I,Gs,jD,hlw,hlc,hnl] at hwt
      repeat (first|refine aG ?_|refine aH ?_|refine ag ?_|refine aW ?_|refine aI ?_|refine au ?_|refine ak ?_|refine ae ?_|refine aA ?_|refine aC ?_|refine bM ?_)
      refine bf aJ dI (hwt) ?_
      rintro _ (⟨hwk,rfl⟩|⟨hwk,rfl⟩)
      ·have hL:=mV W C s.num s.den
       rw [hlw] at hL
       have hbo:=zt (gB W C s.num s.den) nd _ s.flow h.g hwk hL
       simp only [I,Gs,hnl,hL] at hbo
       have hA:Qe W C nd B s:=⟨⟨hl,hC,by omega⟩,hc,hwo,hm,hwk⟩
       refine ⟨dE,_,_,_,_,_,dw,(by decide),aQ,?_⟩
       repeat (first|refine ah ?_|refine aH ?_|refine ag ?_|refine aW ?_|refine bU ?_|refine au ?_|refine ak ?_|refine ae ?_|refine aA ?_|refine aC ?_)
       refine bf aJ dI (hbo) ?_
       rintro _ ⟨x,y,rfl,hBo⟩
       have hx:=BoundR.bd h.g hwk hBo
       have bb:=mX (a:=s.num) (b:=B) hm.1.1 hm.1.2 hB.1 hB.2
       refine ⟨dE,_,_,_,_,_,dw,(by decide),aQ,?_⟩
       by_cases hy:y=0
       ·repeat (first|refine ah ?_|refine ag ?_|refine bU ?_|refine ak ?_)
        refine bQ bi bi (fun _ _ r=>r=.int .i64 ((x+s.num*B) / s.den)) ?_
        repeat (first|refine ah ?_|refine aG ?_|refine aH ?_|refine aW ?_|refine bz ?_|refine lg (by rfl) (by rfl) nV ?_|refine aC ?_)
        refine bG aJ dI (Bj (x+s.num*B) s.den (by have:=hm.2;omega) (by have:=hm.2;omega) (by omega) (by omega)) ⟨_,rfl,rfl⟩ ?_
        rintro _ rfl -
        refine ⟨dE,_,_,_,_,_,dw,(by decide),aQ,?_⟩
        by_cases hbd:(x+s.num*B) / s.den=s.bound
        ·repeat (first|refine ah ?_|refine aG ?_|refine aH ?_|refine ag ?_|refine aW ?_|refine aI ?_|refine au ?_|refine ak ?_|refine ae ?_|refine aA ?_|refine aC ?_)
         refine ay ?_
         exact ⟨0,rfl,.inr ⟨hA,x,y,hBo,.inl ⟨hy,hbd,rfl⟩⟩⟩
        ·repeat (first|refine ah ?_|refine aG ?_|refine aH ?_|refine ag ?_|refine aW ?_|refine aI ?_|refine ax ?_|refine ak ?_|refine ae ?_|refine aC ?_)
         refine ay ?_
         exact ⟨24,rfl,.inr ⟨hA,x,y,hBo,.inr ⟨fun h=>hbd h.2,rfl⟩⟩⟩
       ·repeat (first|refine ah ?_|refine ag ?_|refine bU ?_|refine ak ?_)
        refine bQ bi bi (fun _ _ r=>False) ?_
        repeat (first|refine ah ?_|refine bZ ?_|refine ag ?_|refine aW ?_|refine aK ?_|refine ax ?_|refine ak ?_|refine ae ?_)
        refine ay ?_
        exact ⟨24,rfl,.inr ⟨hA,x,y,hBo,.inr ⟨fun h=>hy h.1,rfl⟩⟩⟩
      ·refine ⟨dE,_,_,_,_,_,dw,(by decide),aQ,?_⟩
       repeat (first|refine ah ?_|refine ag ?_|refine aW ?_|refine bU ?_|refine ax ?_|refine ak ?_|refine ae ?_)
       refine ay ?_
       exact out fun hA=>hwk hA.wok
     ·have hwt:=qR h s.num s.den hm
      simp only [I,Gs,jD,hlw,hlc,hnl] at hwt
      repeat (first|refine aG ?_|refine aH ?_|refine ag ?_|refine aW ?_|refine aI ?_|refine au ?_|refine ak ?_|refine ae ?_|refine aA ?_|refine aC ?_|refine bM ?_)
      refine bf aJ dI (hwt) ?_
      rintro _ rfl
      refine ⟨dE,_,_,_,_,_,dw,(by decide),aQ,?_⟩
      repeat (first|refine ah ?_|refine ag ?_|refine aW ?_|refine bU ?_|refine ax ?_|refine ak ?_|refine ae ?_)
      refine ay ?_
      exact out fun hA=>hm hA.mul
    ·repeat (first|refine ah ?_|refine aG ?_|refine aH ?_|refine ag ?_|refine aW ?_|refine aI ?_|refine ax ?_|refine ak ?_|refine ae ?_|refine aC ?_)
     refine ay ?_
     exact out fun hA=>hwo hA.worth
   ·repeat (first|refine ah ?_|refine aG ?_|refine bZ ?_|refine aH ?_|refine ag ?_|refine aW ?_|refine aK ?_|refine aI ?_|refine ax ?_|refine ak ?_|refine ae ?_|refine bn ?_|refine aC ?_)
    refine ay ?_
    exact out fun hA=>hcB (by rw [<- hc];exact hA.sel.cost)
  ·repeat (first|refine ah ?_|refine aG ?_|refine bZ ?_|refine aH ?_|refine ag ?_|refine aW ?_|refine aK ?_|refine aI ?_|refine ax ?_|refine ak ?_|refine ae ?_|refine aC ?_)
   refine ay ?_
   exact out fun hA=>hc hA.cost
set_option maxHeartbeats 8000000 in
theorem lT {W C:List Int} {nd:List (List Nat)} {B:Int} (h:Pb W C nd B) (s:Sn) (hs:s.set.length<=9223372036854775807):HT Try.prog 23 [.agg (jD W C nd B),.agg (Ai s)] (fun r=>∃e,r=.int .i64 e/\SnE W C nd B s e):=by
 have hsz:=h.g.size
 have hlw:=h.lw
 have hlc:=h.lc
 have hB:=h.b
 have hnl:(nd.map nl).length=nd.length:=by simp
 have hav:=qZ h
 have hse:=Gv h s.set hs
 simp only [I,Gs,Bl,jD,hlw,hlc,hnl] at hav hse
 have out:¬ Qe W C nd B s->∃e:Int,HV.int .i64 24=.int .i64 e/\SnE W C nd B s e:=fun h=>⟨24,rfl,.inl ⟨h,rfl⟩⟩
 refine HT.of rfl ael (Nat.le_of_ble_eq_true rfl) ?_
 unfold c23
 simp only [Ai,I,Gs,Bl,jD,aP,Nat.reduceAdd,hlw,hlc,hnl]
 repeat (first|refine ah ?_|refine ag ?_|refine ak ?_|refine ae ?_|refine bM ?_|refine dX ?_)
 refine bf aJ dI (hav) ?_
 rintro _ rfl
 refine ⟨dE,_,_,_,_,_,dw,(by decide),aQ,?_⟩
 repeat (first|refine ag ?_|refine au ?_|refine ak ?_|refine aA ?_|refine dR (by rfl) ?_)
 refine bQ bi bi (U6 nd.length 30 37 (Sel C nd B s.set) (Mul s.num s.den)) ?_
 repeat (first|refine aH ?_|refine aC ?_|refine bM ?_)
 refine bG aJ dI (hse.mono fun r h=>(Lr (by decide)).2 h) (Tn (by decide) _ rfl) ?_
 rintro r hr -
 obtain ⟨b,rfl,hb⟩:=(Lr (by decide)).1 hr
 refine ⟨dE,_,_,_,_,_,dw,(by decide),aQ,?_⟩
 cases b with
 | false =>
  repeat (first|refine ah ?_|refine bZ ?_|refine ag ?_|refine aK ?_|refine ax ?_|refine ak ?_|refine ae ?_|refine gZ (by rfl) ?_)
  refine ay ?_
  exact out fun hA=>absurd (hb.2 hA.sel) (by decide)
 | true =>
  have hSel:=hb.1 rfl
  have hl:=hSel.len
  have o1:=vw C s.set h.cok (by omega) (by omega)
  have o2:=vw W s.set h.wok (by omega) (by omega)
  simp only [I,Bl,hlc,hlw,hl] at o1 o2
  rw [hl]
  repeat (first|refine ah ?_|refine aG ?_|refine aH ?_|refine dR (by rfl) ?_|refine aC ?_)
  refine bG aJ dI (o2.mono fun r h=>(wo (by decide) (by decide)).2 h) ⟨_,(wo (by decide) (by decide)).2 rfl,rfl⟩ ?_
  rintro r hr -
  obtain rfl:=(wo (by decide) (by decide)).1 hr
  refine ⟨dE,_,_,_,_,_,dw,(by decide),aQ,?_⟩
  by_cases hwo:wS W s.set nd.length=s.worth
  ·repeat (first|refine ah ?_|refine aG ?_|refine aH ?_|refine aW ?_|refine aI ?_|refine aC ?_)
   refine bG aJ dI (o1.mono fun r h=>(wo (by decide) (by decide)).2 h) ⟨_,(wo (by decide) (by decide)).2 rfl,rfl⟩ ?_
   rintro r hr -
   obtain rfl:=(wo (by decide) (by decide)).1 hr
   refine ⟨dE,_,_,_,_,_,dw,(by decide),aQ,?_⟩
   by_cases hc:wS C s.set nd.length=s.cost
   ·repeat (first|refine ah ?_|refine aG ?_|refine aH ?_|refine aW ?_|refine aI ?_|refine aC ?_)
    refine bG aJ dI ((Ce s.num s.den).mono fun r h=>(JX (by decide)).2 h) (TS (by decide) _ rfl) ?_
    rintro r hr -
    obtain ⟨b,rfl,hb2⟩:=(JX (by decide)).1 hr
    refine ⟨dE,_,_,_,_,_,dw,(by decide),aQ,?_⟩
    cases b with
    | false =>
     repeat (first|refine ah ?_|refine aG ?_|refine ag ?_|refine aI ?_|refine ax ?_|refine ak ?_|refine ae ?_|refine gZ (by rfl) ?_)
     refine ay ?_
     exact out fun hA=>absurd (hb2.2 hA.mul) (by decide)
    | true =>
     have hm:=hb2.1 rfl
     have hwt:=nJ h s.num s.den hm
     simp only [I,Gs,jD,hlw,hlc,hnl] at hwt
     repeat (first|refine aG ?_|refine aH ?_|refine ag ?_|refine aI ?_|refine au ?_|refine ak ?_|refine ae ?_|refine aA ?_|refine dR (by rfl) ?_|refine aC ?_|refine bM ?_)
     refine bf aJ dI (hwt) ?_
     rintro _ (⟨hwk,rfl⟩|⟨hwk,rfl⟩)
     ·have hL:=mV W C s.num s.den
      rw [hlw] at hL
      have hbo:=Jr (gB W C s.num s.den) nd _ s.flow h.g hwk hL
      simp only [I,Gs,hnl,hL] at hbo
      have hA:Qe W C nd B s:=⟨hSel,hc,hwo,hm,hwk⟩
      refine ⟨dE,_,_,_,_,_,dw,(by decide),aQ,?_⟩
      repeat (first|refine ah ?_|refine aH ?_|refine ag ?_|refine bU ?_|refine au ?_|refine ak ?_|refine ae ?_|refine aA ?_|refine dR (by rfl) ?_|refine aC ?_)
      refine bf aJ dI (hbo) ?_
      rintro _ ⟨x,y,rfl,hBo⟩
      have hx:=BoundR.bd h.g hwk hBo
      have bb:=mX (a:=s.num) (b:=B) hm.1.1 hm.1.2 hB.1 hB.2
      refine ⟨dE,_,_,_,_,_,dw,(by decide),aQ,?_⟩
      repeat (first|refine ah ?_|refine ag ?_|refine bU ?_|refine ak ?_)
      refine bQ bi bi (fun _ _ r=>r=.int .i64 ((x+s.num*B) / s.den)) ?_
      by_cases hy:y=0
      ·repeat (first|refine ah ?_|refine aG ?_|refine aH ?_|refine aW ?_|refine bz ?_|refine lg (by rfl) (by rfl) nV ?_|refine aC ?_)
       refine bG aJ dI (yO (x+s.num*B) s.den (by have:=hm.2;omega) (by have:=hm.2;omega) (by omega) (by omega)) ⟨_,rfl,rfl⟩ ?_
       rintro _ rfl -
       refine ⟨dE,_,_,_,_,_,dw,(by decide),aQ,?_⟩
       by_cases hbd:s.bound=(x+s.num*B) / s.den
       ·repeat (first|refine ah ?_|refine aG ?_|refine ag ?_|refine aW ?_|refine aI ?_|refine au ?_|refine ak ?_|refine ae ?_|refine aA ?_)
        refine ay ?_
        exact ⟨0,rfl,.inr ⟨hA,x,y,hBo,.inl ⟨hy,hbd.symm,rfl⟩⟩⟩
       ·repeat (first|refine ah ?_|refine aG ?_|refine ag ?_|refine aW ?_|refine aI ?_|refine ax ?_|refine ak ?_|refine ae ?_)
        refine ay ?_
        exact ⟨24,rfl,.inr ⟨hA,x,y,hBo,.inr ⟨fun h=>hbd h.2.symm,rfl⟩⟩⟩
      ·repeat (first|refine ah ?_|refine bZ ?_|refine ag ?_|refine aW ?_|refine aK ?_|refine ax ?_|refine ak ?_|refine ae ?_)
       refine ay ?_
       exact ⟨24,rfl,.inr ⟨hA,x,y,hBo,.inr ⟨fun h=>hy h.1,rfl⟩⟩⟩
     ·refine ⟨dE,_,_,_,_,_,dw,(by decide),aQ,?_⟩
      repeat (first|refine ah ?_|refine ag ?_|refine bU ?_|refine ax ?_|refine ak ?_|refine ae ?_|refine gZ (by rfl) ?_)
      refine ay ?_
      exact out fun hA=>hwk hA.wok
   ·repeat (first|refine ah ?_|refine aG ?_|refine bZ ?_|refine aH ?_|refine ag ?_|refine aW ?_|refine aK ?_|refine aI ?_|refine ax ?_|refine ak ?_|refine ae ?_|refine aC ?_)
    refine ay ?_
    exact out fun hA=>hc hA.cost
  ·repeat (first|refine ah ?_|refine aG ?_|refine bZ ?_|refine aH ?_|refine ag ?_|refine aW ?_|refine aK ?_|refine aI ?_|refine ax ?_|refine ak ?_|refine ae ?_|refine aC ?_)
   refine ay ?_
   exact out fun hA=>hwo hA.worth
theorem SnE.eq {W C:List Int} {nd:List (List Nat)} {B:Int} {s:Sn} {e e':Int} (h:SnE W C nd B s e) (h':SnE W C nd B s e'):e=e':=by
 rcases h with ⟨h1,rfl⟩|⟨h1,x,y,h2,h3⟩
 ·rcases h' with ⟨_,rfl⟩|⟨h,_⟩
  ·rfl
  ·exact absurd h h1
 ·rcases h' with ⟨h,_⟩|⟨_,x',y',h2',h3'⟩
  ·exact absurd h1 h
  ·obtain ⟨rfl,rfl⟩:=h2.eq2 h2'
   rcases h3 with ⟨a,b,rfl⟩|⟨a,rfl⟩
   ·rcases h3' with ⟨_,_,rfl⟩|⟨c,_⟩
    ·rfl
    ·exact absurd ⟨a,b⟩ c
   ·rcases h3' with ⟨c,d,_⟩|⟨_,rfl⟩
    ·exact absurd ⟨c,d⟩ a
    ·rfl
end Go.Proofs.Yteamkjblpglliaa
