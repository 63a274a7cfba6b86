import Derived.Test.YteamkjblpglliaaAbX
import Derived.Test.YteamkjblpglliaaClHull
section
set_option linter.unusedSimpArgs false
set_option linter.unusedVariables false
namespace Go.Proofs.Yteamkjblpglliaa
open Go.RowKit Go.SL Go.HL
theorem xk {a b:Int} (h1 : -536870912<=a/\a<=536870912) (h2 : -536870912<=b/\b<=536870912) : -288230376151711744<=a*b/\a*b<=288230376151711744:=by
 have h:(a*b).natAbs<=536870912*536870912:=by
  rw [Int.natAbs_mul]
  exact Nat.mul_le_mul (by omega) (by omega)
 omega
def xQ (S:List Bool):Nat:=(S.filter fun b=>!b).length
theorem Dt:∀ {S T:List Bool},S.length=T.length->(∀u:Nat,S.getD u false=true->T.getD u false=true)->∀ {i:Nat},i<S.length->S.getD i false=false->T.getD i false=true->xQ T<xQ S:=by
 have le:∀ {S T:List Bool},S.length=T.length->(∀u:Nat,S.getD u false=true->T.getD u false=true)->xQ T<=xQ S:=by
  intro S
  induction S with
  | nil=>intro T h _;obtain rfl:=List.eq_nil_of_length_eq_zero h.symm;exact Nat.le_refl _
  | cons x S ih =>
   intro T h hs
   cases T with
   | nil=>simp at h
   | cons y T =>
    have h1:=ih (T:=T) (by simpa using h) fun u hu=>by simpa using hs (u+1) (by simpa using hu)
    have h0:=hs 0
    unfold xQ at *
    cases x<;>cases y<;>simp at h0 ⊢<;>omega
 intro S
 induction S with
 | nil=>intro T h _ i hi;simp at hi
 | cons x S ih =>
  intro T h hs i hi h1 h2
  cases T with
  | nil=>simp at h
  | cons y T =>
   have hs':∀u:Nat,S.getD u false=true->T.getD u false=true:=fun u hu=>by simpa using hs (u+1) (by simpa using hu)
   have hl:S.length=T.length:=by simpa using h
   cases i with
   | zero =>
    have h3:=le hl hs'
    simp at h1 h2
    subst h1 h2
    unfold xQ at *
    simp;omega
   | succ i =>
    have h3:=ih hl hs' (i:=i) (by simpa using hi) (by simpa using h1) (by simpa using h2)
    have h0:=hs 0
    unfold xQ at *
    cases x<;>cases y<;>simp at h0 ⊢<;>omega
structure Fnd (C:List Int) (nd:List (List Nat)) (B:Int) (S h:List Bool):Prop where
 sel:Sel C nd B h
 less:xQ h<xQ S
def CX (n:Nat):Option (List Bool)->HV
 | none=>.nils
 | some _=>.ref 2 [] 1 0 n
set_option maxHeartbeats 16000000 in
theorem Jt {W C:List Int} {nd:List (List Nat)} {B:Int} (h:Pb W C nd B):HT Try.prog 29 [.agg (jD W C nd B)] (fun r=>∃S,r=.osl 1 nd.length (HL.bools S)/\Sel C nd B S):=by
 have hsz:=h.g.size
 have hlw:=h.lw
 have hlc:=h.lc
 have hnl:(nd.map nl).length=nd.length:=by simp
 have hav:=og h
 simp only [I,Gs,jD,hlw,hlc,hnl] at hav
 refine HT.of rfl aeL (Nat.le_of_ble_eq_true rfl) ?_
 unfold c29
 simp only [I,Gs,jD,aP,Nat.reduceAdd,hlw,hlc,hnl]
 repeat (first|refine Ie (by rfl) ?_|refine ag ?_|refine ak ?_|refine ae ?_|refine bM ?_|refine dX ?_)
 refine bf aJ dI (hav) ?_
 rintro _ rfl
 refine ⟨dE,_,_,_,_,_,dw,(by decide),aQ,?_⟩
 repeat (first|refine ah ?_|refine aH ?_|refine ag ?_|refine aF ?_|refine au ?_|refine ak ?_|refine ae ?_|refine aB ?_|refine aA ?_|refine dR (by rfl) ?_|refine aC ?_|refine ku gU (by rfl) (by omega) bW bW ?_)
 refine bD [1,3] (fun S:List Bool=>Sel C nd B S) (fun S=>⟨[(1,.pref 0 [] 0),(3,.ref 1 [] 1 0 nd.length)],[(0,.optr [.sl nd.length (HL.ints W),.sl nd.length (HL.ints C),.sl nd.length (aZ (nd.map nl)),.int .i64 B]),(1,.osl 1 nd.length (HL.bools S))],2⟩) xQ (List.replicate nd.length false) ?_ (by rw [<- Dz];rfl) ?_
 ·have hz:∀u:Nat,(List.replicate nd.length false).getD u false=false:=fun u=>by
   rw [List.getD_eq_getElem?_getD,List.getElem?_replicate];split<;>rfl
  have h0:∀n,wS C (List.replicate nd.length false) n=0:=fun n=>by
   induction n with
   | zero=>rfl
   | succ n ih=>simp only [wS,ih,hz];rfl
  exact ⟨by simp,fun u hu=>absurd hu (by rw [hz];simp),by rw [h0];exact h.b.1⟩
 intro S hS
 have hSl:=hS.len
 repeat (first|refine Ie (by rfl) ?_|refine ah ?_|refine ag ?_|refine eH (by rfl) ?_|refine ak ?_|refine ae ?_|refine aB ?_)
 refine bD [1,3,4,5,6,19,20,21] (fun q:Nat×Option (List Bool)×Int×Int=>q.1<=nd.length/\((-536870912<=q.2.2.1/\q.2.2.1<=536870912)/\(-536870912<=q.2.2.2/\q.2.2.2<=536870912))/\∀x,q.2.1=some x->Fnd C nd B S x)
  (fun q=>⟨[(1,.pref 0 [] 0),(3,.ref 1 [] 1 0 nd.length),(4,CX nd.length q.2.1),(5,.int .i64 q.2.2.1),(6,.int .i64 q.2.2.2),(19,.ref 1 [] 1 0 nd.length),(20,.int .i64 nd.length),(21,.int .i64 q.1)],(0,.optr [.sl nd.length (HL.ints W),.sl nd.length (HL.ints C),.sl nd.length (aZ (nd.map nl)),.int .i64 B])::(1,.osl 1 nd.length (HL.bools S))::(match q.2.1 with|none=>[]|some hh=>[(2,.osl 1 nd.length (HL.bools hh))]),match q.2.1 with|none=>2|some _=>3⟩) (fun q=>nd.length - q.1) (0,none,0,0) ⟨by simp only;omega,by simp only;omega,by simp⟩ rfl ?_
 rintro ⟨i,o,g,e⟩ ⟨hi,hge,hfo⟩
 simp only at hi hge hfo ⊢
 by_cases hin:i<nd.length
 ·cases o with
  | none =>
   simp only [CX]
   cases hb:S.getD i false with
   | true =>
    repeat (first|refine ah ?_|refine bY ?_|refine gJ (by rfl) dm (by (try simp (disch:=omega) only [go_sem,reduceIte,Nat.reduceEqDiff,Nat.reduceAdd,Nat.reduceMul,hb]);try rfl) aT (by (try simp (disch:=omega) only [go_sem,hb]);try rfl) fP ?_|refine ag ?_|refine az ?_|refine di (by rfl) (by rfl) (by (try simp (disch:=omega) only [go_sem,Int.reduceAdd,Int.reduceSub,Int.reduceMul,hb]);try rfl) ?_|refine aO ?_|refine ax ?_|refine ak ?_|refine ae ?_|refine aB ?_|refine aA ?_)
    exact bJ [1,3,4,5,6,19,20,21] (i+1,none,g,e) ⟨hin,hge,hfo⟩ dV rfl
   | false =>
    have hset:=fun x=>lV S i x true (by omega)
    have hsl:(S.set i true).length=nd.length:=by simp [hSl]
    have hhull:=(BB (nd.map nl) (S.set i true) (by omega) (by omega) (fun x=>by rw [dM,fH];have:=h.g.len x;omega)).mono (K':=fun r=>∃H,r=.osl 1 nd.length (HL.bools H)/\xA (nd.map nl) (S.set i true) H) (by
     rintro _ ⟨H,rfl,⟨hf0,-⟩|⟨-,hH⟩⟩
     ·rw [sD h.g hsl] at hf0;cases hf0
     ·exact ⟨H,by rw [hH.len,hsl],hH⟩)
    have hcl:=nX S (by omega) (by omega)
    simp only [Gs,Bl,hnl,hsl,hSl] at hhull hcl
    repeat (first|refine ah ?_|refine bY ?_|refine gJ (by rfl) dm (by (try simp (disch:=omega) only [go_sem,reduceIte,Nat.reduceEqDiff,Nat.reduceAdd,Nat.reduceMul,hb]);try rfl) aT (by (try simp (disch:=omega) only [go_sem,hb]);try rfl) fP ?_|refine ag ?_|refine az ?_|refine ax ?_|refine au ?_|refine ak ?_|refine ae ?_|refine aB ?_|refine aA ?_)
    refine bf aJ dI (hcl) ?_
    rintro _ rfl
    refine ⟨dE,_,_,_,_,_,dw,(by decide),aQ,?_⟩
    repeat (first|refine ah ?_|refine bY ?_|refine aH ?_|refine ag ?_|refine ak ?_|refine ae ?_|refine aC ?_|refine iI ?_)
    refine bf aJ dI (hhull) ?_
    rintro _ ⟨H,rfl,hH⟩
    refine ⟨dE,_,_,_,_,_,dw,(by decide),aQ,?_⟩
    have hHl:H.length=nd.length:=by rw [hH.len,hsl]
    have oCH:=fD C H h.cok (by omega) (by omega)
    have oWH:=fD W H h.wok (by omega) (by omega)
    have oWS:=fD W S h.wok (by omega) (by omega)
    have oCS:=fD C S h.cok (by omega) (by omega)
    simp only [I,Bl,hlw,hlc,hSl,hHl] at oCH oWH oWS oCS
    have w1:=mD h.w H nd.length
    have w2:=mD h.w S nd.length
    have w3:=mD h.c H nd.length
    have w4:=mD h.c S nd.length
    have hfnd:wS C H nd.length<=B->Fnd C nd B S H:=fun hc=>⟨⟨hHl,closedN_Y.1 hH.closed,hc⟩,Dt (by omega) (fun u hu=>hH.sup u (by rw [hset];split;rfl;exact hu)) (by omega) hb (hH.sup i (by rw [hset,if_pos rfl]))⟩
    repeat (first|refine ah ?_|refine aH ?_|refine ag ?_|refine ak ?_|refine ae ?_|refine aC ?_)
    refine bf aJ dI (oCH) ?_
    rintro _ rfl
    refine ⟨dE,_,_,_,_,_,dw,(by decide),aQ,?_⟩
    repeat (first|refine ah ?_|refine ag ?_|refine ak ?_)
    refine bQ bi bi (Ik nd.length) ?_
    repeat (first|refine ah ?_|refine aH ?_|refine aC ?_)
    refine bG aJ dI (oWH.mono fun r h=>⟨W,H,rfl,h⟩) ⟨_,⟨W,H,rfl,rfl⟩,rfl⟩ ?_
    rintro r hr -
    obtain rfl:=gz hr
    refine ⟨dE,_,_,_,_,_,dw,(by decide),aQ,?_⟩
    repeat (first|refine ah ?_|refine aH ?_|refine aC ?_)
    refine bG aJ dI (oWS.mono fun r h=>⟨W,S,rfl,h⟩) ⟨_,⟨W,S,rfl,rfl⟩,rfl⟩ ?_
    rintro r hr -
    obtain rfl:=gz hr
    refine ⟨dE,_,_,_,_,_,dw,(by decide),aQ,?_⟩
    obtain ⟨G,hG⟩:∃G,wS W H nd.length - wS W S nd.length=G:=⟨_,rfl⟩
    obtain ⟨E,hE⟩:∃E,wS C H nd.length - wS C S nd.length=E:=⟨_,rfl⟩
    repeat (first|refine ah ?_|refine gJ (by rfl) dm (by (try simp (disch:=omega) only [go_sem,reduceIte,Nat.reduceEqDiff,Nat.reduceAdd,Nat.reduceMul,hG]);try rfl) aT (by (try simp (disch:=omega) only [go_sem,hG]);try rfl) fP ?_|refine ik (by rfl) (by rfl) (by (try simp (disch:=omega) only [go_sem,Int.reduceAdd,Int.reduceSub,Int.reduceMul,hG]);try rfl) ?_|refine aC ?_)
    refine bG aJ dI (oCS.mono fun r h=>⟨C,S,rfl,h⟩) ⟨_,⟨C,S,rfl,rfl⟩,rfl⟩ ?_
    rintro r hr -
    obtain rfl:=gz hr
    refine ⟨dE,_,_,_,_,_,dw,(by decide),aQ,?_⟩
    have m1:=xk (a:=G) (b:=e) (by omega) hge.2
    have m2:=xk (a:=g) (b:=E) hge.1 (by omega)
    by_cases c1:G>0
    ·by_cases c2:wS C H nd.length<=B
     ·repeat (first|refine Ie (by rfl) ?_|refine ah ?_|refine aG ?_|refine bZ ?_|refine gJ (by rfl) dm (by (try simp (disch:=omega) only [go_sem,reduceIte,Nat.reduceEqDiff,Nat.reduceAdd,Nat.reduceMul,hE]);try rfl) aT (by (try simp (disch:=omega) only [go_sem,hE]);try rfl) fP ?_|refine ag ?_|refine aK ?_|refine di (by rfl) (by rfl) (by (try simp (disch:=omega) only [go_sem,Int.reduceAdd,Int.reduceSub,Int.reduceMul,hE]);try rfl) ?_|refine ax ?_|refine ak ?_|refine ae ?_|refine dh ?_|refine ik (by rfl) (by rfl) (by (try simp (disch:=omega) only [go_sem,Int.reduceAdd,Int.reduceSub,Int.reduceMul,hE]);try rfl) ?_|refine dU ?_|refine bn ?_|refine aC ?_|refine LW (by rfl) ?_)
      exact bJ [1,3,4,5,6,19,20,21] (i+1,some H,G,E) ⟨hin,⟨by simp only;omega,by simp only;omega⟩,fun x hx=>by cases hx;exact hfnd c2⟩ dV rfl
     ·repeat (first|refine ah ?_|refine aG ?_|refine bZ ?_|refine gJ (by rfl) dm (by (try simp (disch:=omega) only [go_sem,reduceIte,Nat.reduceEqDiff,Nat.reduceAdd,Nat.reduceMul,hE]);try rfl) aT (by (try simp (disch:=omega) only [go_sem,hE]);try rfl) fP ?_|refine ag ?_|refine aK ?_|refine aI ?_|refine di (by rfl) (by rfl) (by (try simp (disch:=omega) only [go_sem,Int.reduceAdd,Int.reduceSub,Int.reduceMul,hE]);try rfl) ?_|refine au ?_|refine ak ?_|refine ae ?_|refine dh ?_|refine aA ?_|refine tu (by rfl) (by rfl) ?_|refine ik (by rfl) (by rfl) (by (try simp (disch:=omega) only [go_sem,Int.reduceAdd,Int.reduceSub,Int.reduceMul,hE]);try rfl) ?_|refine dU ?_|refine bn ?_|refine aC ?_)
      exact bJ [1,3,4,5,6,19,20,21] (i+1,none,g,e) ⟨hin,hge,hfo⟩ dV rfl
    ·repeat (first|refine ah ?_|refine bZ ?_|refine ag ?_|refine aI ?_|refine di (by rfl) (by rfl) (by (try simp (disch:=omega) only [go_sem,Int.reduceAdd,Int.reduceSub,Int.reduceMul,hE]);try rfl) ?_|refine au ?_|refine ak ?_|refine ae ?_|refine dh ?_|refine aA ?_|refine tu (by rfl) (by rfl) ?_|refine ik (by rfl) (by rfl) (by (try simp (disch:=omega) only [go_sem,Int.reduceAdd,Int.reduceSub,Int.reduceMul,hE]);try rfl) ?_|refine bn ?_)
     exact bJ [1,3,4,5,6,19,20,21] (i+1,none,g,e) ⟨hin,hge,hfo⟩ dV rfl
  | some hh =>
   simp only [CX]
   have hhl:=(hfo hh rfl).sel.len
   cases hb:S.getD i false with
   | true =>
    repeat (first|refine ah ?_|refine bY ?_|refine gJ (by rfl) dm (by (try simp (disch:=omega) only [go_sem,reduceIte,Nat.reduceEqDiff,Nat.reduceAdd,Nat.reduceMul,hb]);try rfl) aT (by (try simp (disch:=omega) only [go_sem,hb]);try rfl) fP ?_|refine ag ?_|refine az ?_|refine di (by rfl) (by rfl) (by (try simp (disch:=omega) only [go_sem,Int.reduceAdd,Int.reduceSub,Int.reduceMul,hb]);try rfl) ?_|refine aO ?_|refine ax ?_|refine ak ?_|refine ae ?_|refine aB ?_|refine aA ?_)
    exact bJ [1,3,4,5,6,19,20,21] (i+1,some hh,g,e) ⟨hin,hge,hfo⟩ dV rfl
   | false =>
    have hset:=fun x=>lV S i x true (by omega)
    have hsl:(S.set i true).length=nd.length:=by simp [hSl]
    have hhull:=(BB (nd.map nl) (S.set i true) (by omega) (by omega) (fun x=>by rw [dM,fH];have:=h.g.len x;omega)).mono (K':=fun r=>∃H,r=.osl 1 nd.length (HL.bools H)/\xA (nd.map nl) (S.set i true) H) (by
     rintro _ ⟨H,rfl,⟨hf0,-⟩|⟨-,hH⟩⟩
     ·rw [sD h.g hsl] at hf0;cases hf0
     ·exact ⟨H,by rw [hH.len,hsl],hH⟩)
    have hcl:=nX S (by omega) (by omega)
    simp only [Gs,Bl,hnl,hsl,hSl] at hhull hcl
    repeat (first|refine ah ?_|refine bY ?_|refine gJ (by rfl) dm (by (try simp (disch:=omega) only [go_sem,reduceIte,Nat.reduceEqDiff,Nat.reduceAdd,Nat.reduceMul,hb]);try rfl) aT (by (try simp (disch:=omega) only [go_sem,hb]);try rfl) fP ?_|refine ag ?_|refine az ?_|refine ax ?_|refine au ?_|refine ak ?_|refine ae ?_|refine aB ?_|refine aA ?_)
    refine bf aJ dI (hcl) ?_
    rintro _ rfl
    refine ⟨dE,_,_,_,_,_,dw,(by decide),aQ,?_⟩
    repeat (first|refine ah ?_|refine bY ?_|refine aH ?_|refine ag ?_|refine ak ?_|refine ae ?_|refine aC ?_|refine iI ?_)
    refine bf aJ dI (hhull) ?_
    rintro _ ⟨H,rfl,hH⟩
    refine ⟨dE,_,_,_,_,_,dw,(by decide),aQ,?_⟩
    have hHl:H.length=nd.length:=by rw [hH.len,hsl]
    have oCH:=fD C H h.cok (by omega) (by omega)
    have oWH:=fD W H h.wok (by omega) (by omega)
    have oWS:=fD W S h.wok (by omega) (by omega)
    have oCS:=fD C S h.cok (by omega) (by omega)
    simp only [I,Bl,hlw,hlc,hSl,hHl] at oCH oWH oWS oCS
    have w1:=mD h.w H nd.length
    have w2:=mD h.w S nd.length
    have w3:=mD h.c H nd.length
    have w4:=mD h.c S nd.length
    have hfnd:wS C H nd.length<=B->Fnd C nd B S H:=fun hc=>⟨⟨hHl,closedN_Y.1 hH.closed,hc⟩,Dt (by omega) (fun u hu=>hH.sup u (by rw [hset];split;rfl;exact hu)) (by omega) hb (hH.sup i (by rw [hset,if_pos rfl]))⟩
    repeat (first|refine ah ?_|refine aH ?_|refine ag ?_|refine ak ?_|refine ae ?_|refine aC ?_)
    refine bf aJ dI (oCH) ?_
    rintro _ rfl
    refine ⟨dE,_,_,_,_,_,dw,(by decide),aQ,?_⟩
    repeat (first|refine ah ?_|refine ag ?_|refine ak ?_)
    refine bQ bi bi (Ik nd.length) ?_
    repeat (first|refine ah ?_|refine aH ?_|refine aC ?_)
    refine bG aJ dI (oWH.mono fun r h=>⟨W,H,rfl,h⟩) ⟨_,⟨W,H,rfl,rfl⟩,rfl⟩ ?_
    rintro r hr -
    obtain rfl:=gz hr
    refine ⟨dE,_,_,_,_,_,dw,(by decide),aQ,?_⟩
    repeat (first|refine ah ?_|refine aH ?_|refine aC ?_)
    refine bG aJ dI (oWS.mono fun r h=>⟨W,S,rfl,h⟩) ⟨_,⟨W,S,rfl,rfl⟩,rfl⟩ ?_
    rintro r hr -
    obtain rfl:=gz hr
    refine ⟨dE,_,_,_,_,_,dw,(by decide),aQ,?_⟩
    obtain ⟨G,hG⟩:∃G,wS W H nd.length - wS W S nd.length=G:=⟨_,rfl⟩
    obtain ⟨E,hE⟩:∃E,wS C H nd.length - wS C S nd.length=E:=⟨_,rfl⟩
    repeat (first|refine ah ?_|refine gJ (by rfl) dm (by (try simp (disch:=omega) only [go_sem,reduceIte,Nat.reduceEqDiff,Nat.reduceAdd,Nat.reduceMul,hG]);try rfl) aT (by (try simp (disch:=omega) only [go_sem,hG]);try rfl) fP ?_|refine ik (by rfl) (by rfl) (by (try simp (disch:=omega) only [go_sem,Int.reduceAdd,Int.reduceSub,Int.reduceMul,hG]);try rfl) ?_|refine aC ?_)
    refine bG aJ dI (oCS.mono fun r h=>⟨C,S,rfl,h⟩) ⟨_,⟨C,S,rfl,rfl⟩,rfl⟩ ?_
    rintro r hr -
    obtain rfl:=gz hr
    refine ⟨dE,_,_,_,_,_,dw,(by decide),aQ,?_⟩
    have m1:=xk (a:=G) (b:=e) (by omega) hge.2
    have m2:=xk (a:=g) (b:=E) hge.1 (by omega)
    by_cases c1:G>0
    ·by_cases c2:wS C H nd.length<=B
     ·by_cases c3:G*e>g*E
      ·repeat (first|refine ah ?_|refine aG ?_|refine gJ (by rfl) dm (by (try simp (disch:=omega) only [go_sem,reduceIte,Nat.reduceEqDiff,Nat.reduceAdd,Nat.reduceMul,hE]);try rfl) aT (by (try simp (disch:=omega) only [go_sem,hE]);try rfl) fP ?_|refine ag ?_|refine aK ?_|refine aI ?_|refine di (by rfl) (by rfl) (by (try simp (disch:=omega) only [go_sem,Int.reduceAdd,Int.reduceSub,Int.reduceMul,hE]);try rfl) ?_|refine ax ?_|refine ak ?_|refine ae ?_|refine dh ?_|refine ik (by rfl) (by rfl) (by (try simp (disch:=omega) only [go_sem,Int.reduceAdd,Int.reduceSub,Int.reduceMul,hE]);try rfl) ?_|refine lg (by rfl) (by rfl) (by (try simp (disch:=omega) only [go_sem,Int.reduceAdd,Int.reduceSub,Int.reduceMul,hE]);try rfl) ?_|refine dU ?_|refine bn ?_|refine aC ?_|refine ER (by rfl) (by omega) ?_)
       exact bJ [1,3,4,5,6,19,20,21] (i+1,some H,G,E) ⟨hin,⟨by simp only;omega,by simp only;omega⟩,fun x hx=>by cases hx;exact hfnd c2⟩ dV rfl
      ·repeat (first|refine ah ?_|refine aG ?_|refine gJ (by rfl) dm (by (try simp (disch:=omega) only [go_sem,reduceIte,Nat.reduceEqDiff,Nat.reduceAdd,Nat.reduceMul,hE]);try rfl) aT (by (try simp (disch:=omega) only [go_sem,hE]);try rfl) fP ?_|refine ag ?_|refine aK ?_|refine aI ?_|refine di (by rfl) (by rfl) (by (try simp (disch:=omega) only [go_sem,Int.reduceAdd,Int.reduceSub,Int.reduceMul,hE]);try rfl) ?_|refine au ?_|refine ak ?_|refine ae ?_|refine dh ?_|refine aA ?_|refine ik (by rfl) (by rfl) (by (try simp (disch:=omega) only [go_sem,Int.reduceAdd,Int.reduceSub,Int.reduceMul,hE]);try rfl) ?_|refine lg (by rfl) (by rfl) (by (try simp (disch:=omega) only [go_sem,Int.reduceAdd,Int.reduceSub,Int.reduceMul,hE]);try rfl) ?_|refine dU ?_|refine bn ?_|refine aC ?_|refine ER (by rfl) (by omega) ?_)
       exact bJ [1,3,4,5,6,19,20,21] (i+1,some hh,g,e) ⟨hin,hge,hfo⟩ dV rfl
     ·repeat (first|refine ah ?_|refine aG ?_|refine bZ ?_|refine gJ (by rfl) dm (by (try simp (disch:=omega) only [go_sem,reduceIte,Nat.reduceEqDiff,Nat.reduceAdd,Nat.reduceMul,hE]);try rfl) aT (by (try simp (disch:=omega) only [go_sem,hE]);try rfl) fP ?_|refine ag ?_|refine aK ?_|refine aI ?_|refine di (by rfl) (by rfl) (by (try simp (disch:=omega) only [go_sem,Int.reduceAdd,Int.reduceSub,Int.reduceMul,hE]);try rfl) ?_|refine au ?_|refine ak ?_|refine ae ?_|refine dh ?_|refine aA ?_|refine tu (by rfl) (by rfl) ?_|refine ik (by rfl) (by rfl) (by (try simp (disch:=omega) only [go_sem,Int.reduceAdd,Int.reduceSub,Int.reduceMul,hE]);try rfl) ?_|refine dU ?_|refine bn ?_|refine aC ?_)
      exact bJ [1,3,4,5,6,19,20,21] (i+1,some hh,g,e) ⟨hin,hge,hfo⟩ dV rfl
    ·repeat (first|refine ah ?_|refine bZ ?_|refine ag ?_|refine aI ?_|refine di (by rfl) (by rfl) (by (try simp (disch:=omega) only [go_sem,Int.reduceAdd,Int.reduceSub,Int.reduceMul,hE]);try rfl) ?_|refine au ?_|refine ak ?_|refine ae ?_|refine dh ?_|refine aA ?_|refine tu (by rfl) (by rfl) ?_|refine ik (by rfl) (by rfl) (by (try simp (disch:=omega) only [go_sem,Int.reduceAdd,Int.reduceSub,Int.reduceMul,hE]);try rfl) ?_|refine bn ?_)
     exact bJ [1,3,4,5,6,19,20,21] (i+1,some hh,g,e) ⟨hin,hge,hfo⟩ dV rfl
 ·obtain rfl:i=nd.length:=by omega
  cases o with
  | none =>
   simp only [CX]
   repeat (first|refine Ie (by rfl) ?_|refine ah ?_|refine ag ?_|refine az ?_|refine aO ?_|refine ax ?_|refine au ?_|refine ak ?_|refine ae ?_|refine LW (by rfl) ?_)
   refine ay ?_
   exact ⟨S,rfl,hS⟩
  | some hh =>
   simp only [CX]
   have hfh:=hfo hh rfl
   have hn0:0<nd.length:=by
    have h1:=hfh.less
    have h2:=List.length_filter_le (fun b=>!b) S
    unfold xQ at h1
    omega
   repeat (first|refine ah ?_|refine ag ?_|refine az ?_|refine aO ?_|refine au ?_|refine ak ?_|refine ae ?_|refine dh ?_|refine aA ?_|refine ER (by rfl) (by omega) ?_)
   exact bJ [1,3] hh hfh.sel hfh.less rfl
end Go.Proofs.Yteamkjblpglliaa
end
section
set_option linter.unusedSimpArgs false
set_option linter.unusedVariables false
namespace Go.Proofs.Yteamkjblpglliaa
open Go.RowKit Go.SL Go.HL
theorem Eg:∀ {X S:List Bool},(∀u:Nat,S.getD u false=true->X.getD u false=true)->lexB X S=false
 | [],_,_=>by simp [lexB]
 | _::_,[],_=>by simp [lexB]
 | x::xs,s::ss,h=>by
  have h0:=h 0
  have hs:∀u:Nat,ss.getD u false=true->xs.getD u false=true:=fun u hu=>by simpa using h (u+1) (by simpa using hu)
  simp only [lexB]
  by_cases e:x=s
  ·rw [if_pos e];exact Eg hs
  ·rw [if_neg e]
   cases x<;>cases s<;>simp_all
theorem FW {W C:List Int} {nd:List (List Nat)} {B:Int} {S:List Bool} (hlw:W.length=nd.length) (hc:∀i,0<=C.getD i 0) (hS:mO (gB W C 0 1) nd S) {X:List Bool} (hX:Sel C nd B X):rE W C nd.length X S=false:=by
 have e:∀Y,wS (gB W C 0 1) Y nd.length=wS W Y nd.length:=fun Y=>by
  rw [uu _ _ _ _ _ _ (by omega)];omega
 have h1:=hS.most X hX.len hX.closed
 have h2:=hS.least X hX.len hX.closed
 rw [e,e] at h1
 rw [e,e] at h2
 unfold rE
 by_cases e1:wS W X nd.length=wS W S nd.length
 ·rw [if_pos e1]
  have hsub:=h2 e1
  have h3:=BQ hc hsub nd.length
  by_cases e2:wS C X nd.length=wS C S nd.length
  ·rw [if_pos e2];exact Eg hsub
  ·rw [if_neg e2];simp only [decide_eq_false_iff_not];omega
 ·rw [if_neg e1];simp only [decide_eq_false_iff_not];omega
theorem FN {nd:List (List Nat)} {bad:List Bool} (g:Gr nd bad):U7 nd (iK nd nd.length 0):=by
 have hget:∀k,(iK nd nd.length 0).getD k []=if k<nd.length then lN nd nd.length k else []:=fun k=>by
  by_cases h:k<nd.length
  ·rw [xN nd _ _ h,if_pos h];simp [kV]
  ·rw [if_neg h,List.getD_eq_getElem?_getD,List.getElem?_eq_none (by rw [tH];omega)];rfl
 refine ⟨tH _ _ _,fun k j=>?_,fun k=>?_⟩
 ·rw [hget]
  by_cases h:k<nd.length
  ·rw [if_pos h];simp [lN]
  ·rw [if_neg h]
   constructor
   ·intro hx;cases hx
   ·rintro ⟨_,hx⟩;exact absurd (g.lt _ _ hx) h
 ·rw [hget]
  split
  ·unfold lN
   have:=List.length_filter_le (fun u=>decide (k∈nd.getD u [])) (List.range nd.length)
   simpa using this
  ·simp
end Go.Proofs.Yteamkjblpglliaa
end
