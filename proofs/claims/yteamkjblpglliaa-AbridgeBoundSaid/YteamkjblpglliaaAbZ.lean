import Derived.Test.YteamkjblpglliaaAbX
import Derived.Test.YteamkjblpglliaaAbV
section
set_option linter.unusedSimpArgs false
set_option linter.unusedVariables false
namespace Go.Proofs.Yteamkjblpglliaa
open Go.RowKit Go.SL Go.HL
theorem wX {a b:Int} (h1 : -536870912<=a/\a<=536870912) (h2 : -536870912<=b/\b<=536870912) : -288230376151711744<=a * b/\a * b<=288230376151711744:=by
 have h:(a * b).natAbs<=536870912 * 536870912:=by
  rw [Int.natAbs_mul]
  exact Nat.mul_le_mul (by omega) (by omega)
 omega
def yN (S:List Bool):Nat:=(S.filter fun b=>!b).length
theorem CO:∀ {S T:List Bool},S.length=T.length->(∀u:Nat,S.getD u false=true->T.getD u false=true)->∀ {i:Nat},i < S.length->S.getD i false=false->T.getD i false=true->yN T < yN S:=by
 have le:∀ {S T:List Bool},S.length=T.length->(∀u:Nat,S.getD u false=true->T.getD u false=true)->yN T<=yN S:=by
  intro S
  induction S with
  | nil=>intro T h _;obtain rfl:=List.eq_nil_of_length_eq_zero h.symm;exact Nat.le_refl _
  | cons x S ih =>
   intro T h hs
   cases T with
   | nil=>simp at h
   | cons y T =>
    have h1:=ih (T:=T) (by simpa using h) fun u hu=>by simpa using hs (u+1) (by simpa using hu)
    have h0:=hs 0
    unfold yN at *
    cases x <;> cases y <;> simp at h0 ⊢ <;> omega
 intro S
 induction S with
 | nil=>intro T h _ i hi;simp at hi
 | cons x S ih =>
  intro T h hs i hi h1 h2
  cases T with
  | nil=>simp at h
  | cons y T =>
   have hs':∀u:Nat,S.getD u false=true->T.getD u false=true:=fun u hu=>by simpa using hs (u+1) (by simpa using hu)
   have hl:S.length=T.length:=by simpa using h
   cases i with
   | zero =>
    have h3:=le hl hs'
    simp at h1 h2
    subst h1 h2
    unfold yN at *
    simp;omega
   | succ i =>
    have h3:=ih hl hs' (i:=i) (by simpa using hi) (by simpa using h1) (by simpa using h2)
    have h0:=hs 0
    unfold yN at *
    cases x <;> cases y <;> simp at h0 ⊢ <;> omega
structure Fnd (C:List Int) (nd:List (List Nat)) (B:Int) (S h:List Bool):Prop where
 sel:Sel C nd B h
 less:yN h < yN S
def CY (n:Nat):Option (List Bool)->HV
 | none=>.nils
 | some _=>.ref 2 [] 1 0 n
set_option maxHeartbeats 16000000 in
theorem IM {W C:List Int} {nd:List (List Nat)} {B:Int} (h:Pb W C nd B):HT Try.prog 29 [.agg (jX W C nd B)] (fun r=>∃S,r=.osl 1 nd.length (HL.bools S)/\Sel C nd B S):=by
 have hsz:=h.g.size
 have hlw:=h.lw
 have hlc:=h.lc
 have hnl:(nd.map nl).length=nd.length:=by simp
 have hav:=sF h
 simp only [I,Gs,jX,hlw,hlc,hnl] at hav
 refine HT.of rfl adR (Nat.le_of_ble_eq_true rfl) ?_
 unfold c29
 simp only [I,Gs,jX,aO,Nat.reduceAdd,hlw,hlc,hnl]
 repeat (first|refine Ie (by rfl) ?_|refine ag ?_|refine ak ?_|refine ae ?_|refine bV ?_|refine eu ?_)
 refine bg aK dO (hav) ?_
 rintro _ rfl
 refine ⟨dF,_,_,_,_,_,dA,(by decide),aQ,?_⟩
 repeat (first|refine ah ?_|refine aF ?_|refine ag ?_|refine aG ?_|refine au ?_|refine ak ?_|refine ae ?_|refine aC ?_|refine aB ?_|refine fD (by rfl) ?_|refine aA ?_|refine kZ gY (by rfl) (by omega) di di ?_)
 refine bH [1,3] (fun S:List Bool=>Sel C nd B S) (fun S=>⟨[(1,.pref 0 [] 0),(3,.ref 1 [] 1 0 nd.length)],[(0,.optr [.sl nd.length (HL.ints W),.sl nd.length (HL.ints C),.sl nd.length (bf (nd.map nl)),.int .i64 B]),(1,.osl 1 nd.length (HL.bools S))],2⟩) yN (List.replicate nd.length false) ?_ (by rw [<- yF];rfl) ?_
 ·have hz:∀u:Nat,(List.replicate nd.length false).getD u false=false:=fun u=>by
   rw [List.getD_eq_getElem?_getD,List.getElem?_replicate];split <;> rfl
  have h0:∀n,wS C (List.replicate nd.length false) n=0:=fun n=>by
   induction n with
   | zero=>rfl
   | succ n ih=>simp only [wS,ih,hz];rfl
  exact ⟨by simp,fun u hu=>absurd hu (by rw [hz];simp),by rw [h0];exact h.b.1⟩
 intro S hS
 have hSl:=hS.len
 repeat (first|refine Ie (by rfl) ?_|refine ah ?_|refine ag ?_|refine jd (by rfl) ?_|refine ak ?_|refine ae ?_|refine aC ?_)
 refine bH [1,3,4,5,6,19,20,21] (fun q:Nat×Option (List Bool)×Int×Int=>q.1<=nd.length/\((-536870912<=q.2.2.1/\q.2.2.1<=536870912)/\(-536870912<=q.2.2.2/\q.2.2.2<=536870912))/\∀x,q.2.1=some x->Fnd C nd B S x)
  (fun q=>⟨[(1,.pref 0 [] 0),(3,.ref 1 [] 1 0 nd.length),(4,CY nd.length q.2.1),(5,.int .i64 q.2.2.1),(6,.int .i64 q.2.2.2),(19,.ref 1 [] 1 0 nd.length),(20,.int .i64 nd.length),(21,.int .i64 q.1)],(0,.optr [.sl nd.length (HL.ints W),.sl nd.length (HL.ints C),.sl nd.length (bf (nd.map nl)),.int .i64 B]) :: (1,.osl 1 nd.length (HL.bools S)) :: (match q.2.1 with|none=>[]|some hh=>[(2,.osl 1 nd.length (HL.bools hh))]),match q.2.1 with|none=>2|some _=>3⟩) (fun q=>nd.length - q.1) (0,none,0,0) ⟨by simp only;omega,by simp only;omega,by simp⟩ rfl ?_
 rintro ⟨i,o,g,e⟩ ⟨hi,hge,hfo⟩
 simp only at hi hge hfo ⊢
 by_cases hin:i < nd.length
 ·cases o with
  | none =>
   simp only [CY]
   cases hb:S.getD i false with
   | true =>
    repeat (first|refine ah ?_|refine dH ?_|refine gX (by rfl) dK (by (try simp (disch:=omega) only [go_sem,reduceIte,Nat.reduceEqDiff,Nat.reduceAdd,Nat.reduceMul,hb]);try rfl) aV (by (try simp (disch:=omega) only [go_sem,hb]);try rfl) gy ?_|refine ag ?_|refine az ?_|refine dn (by rfl) (by rfl) (by (try simp (disch:=omega) only [go_sem,Int.reduceAdd,Int.reduceSub,Int.reduceMul,hb]);try rfl) ?_|refine bz (by rfl) ?_|refine ax ?_|refine ak ?_|refine ae ?_|refine aC ?_|refine aB ?_)
    exact bQ [1,3,4,5,6,19,20,21] (i+1,none,g,e) ⟨hin,hge,hfo⟩ fC rfl
   | false =>
    have hset:=fun x=>lT S i x true (by omega)
    have hsl:(S.set i true).length=nd.length:=by simp [hSl]
    have hhull:=(wU (nd.map nl) (S.set i true) (by omega) (by omega) (fun x=>by rw [dM,fE];have:=h.g.len x;omega)).mono (K':=fun r=>∃H,r=.osl 1 nd.length (HL.bools H)/\yg (nd.map nl) (S.set i true) H) (by
     rintro _ ⟨H,rfl,⟨hf0,-⟩|⟨-,hH⟩⟩
     ·rw [oP h.g hsl] at hf0;cases hf0
     ·exact ⟨H,by rw [hH.len,hsl],hH⟩)
    have hcl:=nX S (by omega) (by omega)
    simp only [Gs,Bl,hnl,hsl,hSl] at hhull hcl
    repeat (first|refine ah ?_|refine dH ?_|refine gX (by rfl) dK (by (try simp (disch:=omega) only [go_sem,reduceIte,Nat.reduceEqDiff,Nat.reduceAdd,Nat.reduceMul,hb]);try rfl) aV (by (try simp (disch:=omega) only [go_sem,hb]);try rfl) gy ?_|refine ag ?_|refine az ?_|refine ax ?_|refine au ?_|refine ak ?_|refine ae ?_|refine aC ?_|refine aB ?_)
    refine bg aK dO (hcl) ?_
    rintro _ rfl
    refine ⟨dF,_,_,_,_,_,dA,(by decide),aQ,?_⟩
    repeat (first|refine ah ?_|refine dH ?_|refine aF ?_|refine ag ?_|refine ak ?_|refine ae ?_|refine aA ?_|refine iF ?_)
    refine bg aK dO (hhull) ?_
    rintro _ ⟨H,rfl,hH⟩
    refine ⟨dF,_,_,_,_,_,dA,(by decide),aQ,?_⟩
    have hHl:H.length=nd.length:=by rw [hH.len,hsl]
    have oCH:=fA C H h.cok (by omega) (by omega)
    have oWH:=fA W H h.wok (by omega) (by omega)
    have oWS:=fA W S h.wok (by omega) (by omega)
    have oCS:=fA C S h.cok (by omega) (by omega)
    simp only [I,Bl,hlw,hlc,hSl,hHl] at oCH oWH oWS oCS
    have w1:=jU h.w H nd.length
    have w2:=jU h.w S nd.length
    have w3:=jU h.c H nd.length
    have w4:=jU h.c S nd.length
    have hfnd:wS C H nd.length<=B->Fnd C nd B S H:=fun hc=>⟨⟨hHl,closedN_Y.1 hH.closed,hc⟩,CO (by omega) (fun u hu=>hH.sup u (by rw [hset];split;rfl;exact hu)) (by omega) hb (hH.sup i (by rw [hset,if_pos rfl]))⟩
    repeat (first|refine ah ?_|refine aF ?_|refine ag ?_|refine ak ?_|refine ae ?_|refine aA ?_)
    refine bg aK dO (oCH) ?_
    rintro _ rfl
    refine ⟨dF,_,_,_,_,_,dA,(by decide),aQ,?_⟩
    repeat (first|refine ah ?_|refine ag ?_|refine ak ?_)
    refine bU aU aU (Bj nd.length) ?_
    repeat (first|refine ah ?_|refine aF ?_|refine aA ?_)
    refine bF aK dO (oWH.mono fun r h=>⟨W,H,rfl,h⟩) ⟨_,⟨W,H,rfl,rfl⟩,rfl⟩ ?_
    rintro r hr -
    obtain rfl:=dP hr
    refine ⟨dF,_,_,_,_,_,dA,(by decide),aQ,?_⟩
    repeat (first|refine ah ?_|refine aF ?_|refine aA ?_)
    refine bF aK dO (oWS.mono fun r h=>⟨W,S,rfl,h⟩) ⟨_,⟨W,S,rfl,rfl⟩,rfl⟩ ?_
    rintro r hr -
    obtain rfl:=dP hr
    refine ⟨dF,_,_,_,_,_,dA,(by decide),aQ,?_⟩
    obtain ⟨G,hG⟩:∃G,wS W H nd.length - wS W S nd.length=G:=⟨_,rfl⟩
    obtain ⟨E,hE⟩:∃E,wS C H nd.length - wS C S nd.length=E:=⟨_,rfl⟩
    repeat (first|refine ah ?_|refine gX (by rfl) dK (by (try simp (disch:=omega) only [go_sem,reduceIte,Nat.reduceEqDiff,Nat.reduceAdd,Nat.reduceMul,hG]);try rfl) aV (by (try simp (disch:=omega) only [go_sem,hG]);try rfl) gy ?_|refine ig (by rfl) (by rfl) (by (try simp (disch:=omega) only [go_sem,Int.reduceAdd,Int.reduceSub,Int.reduceMul,hG]);try rfl) ?_|refine aA ?_)
    refine bF aK dO (oCS.mono fun r h=>⟨C,S,rfl,h⟩) ⟨_,⟨C,S,rfl,rfl⟩,rfl⟩ ?_
    rintro r hr -
    obtain rfl:=dP hr
    refine ⟨dF,_,_,_,_,_,dA,(by decide),aQ,?_⟩
    have m1:=wX (a:=G) (b:=e) (by omega) hge.2
    have m2:=wX (a:=g) (b:=E) hge.1 (by omega)
    by_cases c1:G > 0
    ·by_cases c2:wS C H nd.length<=B
     ·repeat (first|refine Ie (by rfl) ?_|refine ah ?_|refine aH ?_|refine bT ?_|refine gX (by rfl) dK (by (try simp (disch:=omega) only [go_sem,reduceIte,Nat.reduceEqDiff,Nat.reduceAdd,Nat.reduceMul,hE]);try rfl) aV (by (try simp (disch:=omega) only [go_sem,hE]);try rfl) gy ?_|refine ag ?_|refine aJ ?_|refine dn (by rfl) (by rfl) (by (try simp (disch:=omega) only [go_sem,Int.reduceAdd,Int.reduceSub,Int.reduceMul,hE]);try rfl) ?_|refine ax ?_|refine ak ?_|refine ae ?_|refine dm ?_|refine ig (by rfl) (by rfl) (by (try simp (disch:=omega) only [go_sem,Int.reduceAdd,Int.reduceSub,Int.reduceMul,hE]);try rfl) ?_|refine dI ?_|refine bu ?_|refine aA ?_|refine J8 (by rfl) ?_)
      exact bQ [1,3,4,5,6,19,20,21] (i+1,some H,G,E) ⟨hin,⟨by simp only;omega,by simp only;omega⟩,fun x hx=>by cases hx;exact hfnd c2⟩ fC rfl
     ·repeat (first|refine ah ?_|refine aH ?_|refine bT ?_|refine gX (by rfl) dK (by (try simp (disch:=omega) only [go_sem,reduceIte,Nat.reduceEqDiff,Nat.reduceAdd,Nat.reduceMul,hE]);try rfl) aV (by (try simp (disch:=omega) only [go_sem,hE]);try rfl) gy ?_|refine ag ?_|refine aJ ?_|refine aI ?_|refine dn (by rfl) (by rfl) (by (try simp (disch:=omega) only [go_sem,Int.reduceAdd,Int.reduceSub,Int.reduceMul,hE]);try rfl) ?_|refine au ?_|refine ak ?_|refine ae ?_|refine dm ?_|refine aB ?_|refine rf (by rfl) (by rfl) ?_|refine ig (by rfl) (by rfl) (by (try simp (disch:=omega) only [go_sem,Int.reduceAdd,Int.reduceSub,Int.reduceMul,hE]);try rfl) ?_|refine dI ?_|refine bu ?_|refine aA ?_)
      exact bQ [1,3,4,5,6,19,20,21] (i+1,none,g,e) ⟨hin,hge,hfo⟩ fC rfl
    ·repeat (first|refine ah ?_|refine bT ?_|refine ag ?_|refine aI ?_|refine dn (by rfl) (by rfl) (by (try simp (disch:=omega) only [go_sem,Int.reduceAdd,Int.reduceSub,Int.reduceMul,hE]);try rfl) ?_|refine au ?_|refine ak ?_|refine ae ?_|refine dm ?_|refine aB ?_|refine rf (by rfl) (by rfl) ?_|refine ig (by rfl) (by rfl) (by (try simp (disch:=omega) only [go_sem,Int.reduceAdd,Int.reduceSub,Int.reduceMul,hE]);try rfl) ?_|refine bu ?_)
     exact bQ [1,3,4,5,6,19,20,21] (i+1,none,g,e) ⟨hin,hge,hfo⟩ fC rfl
  | some hh =>
   simp only [CY]
   have hhl:=(hfo hh rfl).sel.len
   cases hb:S.getD i false with
   | true =>
    repeat (first|refine ah ?_|refine dH ?_|refine gX (by rfl) dK (by (try simp (disch:=omega) only [go_sem,reduceIte,Nat.reduceEqDiff,Nat.reduceAdd,Nat.reduceMul,hb]);try rfl) aV (by (try simp (disch:=omega) only [go_sem,hb]);try rfl) gy ?_|refine ag ?_|refine az ?_|refine dn (by rfl) (by rfl) (by (try simp (disch:=omega) only [go_sem,Int.reduceAdd,Int.reduceSub,Int.reduceMul,hb]);try rfl) ?_|refine bz (by rfl) ?_|refine ax ?_|refine ak ?_|refine ae ?_|refine aC ?_|refine aB ?_)
    exact bQ [1,3,4,5,6,19,20,21] (i+1,some hh,g,e) ⟨hin,hge,hfo⟩ fC rfl
   | false =>
    have hset:=fun x=>lT S i x true (by omega)
    have hsl:(S.set i true).length=nd.length:=by simp [hSl]
    have hhull:=(wU (nd.map nl) (S.set i true) (by omega) (by omega) (fun x=>by rw [dM,fE];have:=h.g.len x;omega)).mono (K':=fun r=>∃H,r=.osl 1 nd.length (HL.bools H)/\yg (nd.map nl) (S.set i true) H) (by
     rintro _ ⟨H,rfl,⟨hf0,-⟩|⟨-,hH⟩⟩
     ·rw [oP h.g hsl] at hf0;cases hf0
     ·exact ⟨H,by rw [hH.len,hsl],hH⟩)
    have hcl:=nX S (by omega) (by omega)
    simp only [Gs,Bl,hnl,hsl,hSl] at hhull hcl
    repeat (first|refine ah ?_|refine dH ?_|refine gX (by rfl) dK (by (try simp (disch:=omega) only [go_sem,reduceIte,Nat.reduceEqDiff,Nat.reduceAdd,Nat.reduceMul,hb]);try rfl) aV (by (try simp (disch:=omega) only [go_sem,hb]);try rfl) gy ?_|refine ag ?_|refine az ?_|refine ax ?_|refine au ?_|refine ak ?_|refine ae ?_|refine aC ?_|refine aB ?_)
    refine bg aK dO (hcl) ?_
    rintro _ rfl
    refine ⟨dF,_,_,_,_,_,dA,(by decide),aQ,?_⟩
    repeat (first|refine ah ?_|refine dH ?_|refine aF ?_|refine ag ?_|refine ak ?_|refine ae ?_|refine aA ?_|refine iF ?_)
    refine bg aK dO (hhull) ?_
    rintro _ ⟨H,rfl,hH⟩
    refine ⟨dF,_,_,_,_,_,dA,(by decide),aQ,?_⟩
    have hHl:H.length=nd.length:=by rw [hH.len,hsl]
    have oCH:=fA C H h.cok (by omega) (by omega)
    have oWH:=fA W H h.wok (by omega) (by omega)
    have oWS:=fA W S h.wok (by omega) (by omega)
    have oCS:=fA C S h.cok (by omega) (by omega)
    simp only [I,Bl,hlw,hlc,hSl,hHl] at oCH oWH oWS oCS
    have w1:=jU h.w H nd.length
    have w2:=jU h.w S nd.length
    have w3:=jU h.c H nd.length
    have w4:=jU h.c S nd.length
    have hfnd:wS C H nd.length<=B->Fnd C nd B S H:=fun hc=>⟨⟨hHl,closedN_Y.1 hH.closed,hc⟩,CO (by omega) (fun u hu=>hH.sup u (by rw [hset];split;rfl;exact hu)) (by omega) hb (hH.sup i (by rw [hset,if_pos rfl]))⟩
    repeat (first|refine ah ?_|refine aF ?_|refine ag ?_|refine ak ?_|refine ae ?_|refine aA ?_)
    refine bg aK dO (oCH) ?_
    rintro _ rfl
    refine ⟨dF,_,_,_,_,_,dA,(by decide),aQ,?_⟩
    repeat (first|refine ah ?_|refine ag ?_|refine ak ?_)
    refine bU aU aU (Bj nd.length) ?_
    repeat (first|refine ah ?_|refine aF ?_|refine aA ?_)
    refine bF aK dO (oWH.mono fun r h=>⟨W,H,rfl,h⟩) ⟨_,⟨W,H,rfl,rfl⟩,rfl⟩ ?_
    rintro r hr -
    obtain rfl:=dP hr
    refine ⟨dF,_,_,_,_,_,dA,(by decide),aQ,?_⟩
    repeat (first|refine ah ?_|refine aF ?_|refine aA ?_)
    refine bF aK dO (oWS.mono fun r h=>⟨W,S,rfl,h⟩) ⟨_,⟨W,S,rfl,rfl⟩,rfl⟩ ?_
    rintro r hr -
    obtain rfl:=dP hr
    refine ⟨dF,_,_,_,_,_,dA,(by decide),aQ,?_⟩
    obtain ⟨G,hG⟩:∃G,wS W H nd.length - wS W S nd.length=G:=⟨_,rfl⟩
    obtain ⟨E,hE⟩:∃E,wS C H nd.length - wS C S nd.length=E:=⟨_,rfl⟩
    repeat (first|refine ah ?_|refine gX (by rfl) dK (by (try simp (disch:=omega) only [go_sem,reduceIte,Nat.reduceEqDiff,Nat.reduceAdd,Nat.reduceMul,hG]);try rfl) aV (by (try simp (disch:=omega) only [go_sem,hG]);try rfl) gy ?_|refine ig (by rfl) (by rfl) (by (try simp (disch:=omega) only [go_sem,Int.reduceAdd,Int.reduceSub,Int.reduceMul,hG]);try rfl) ?_|refine aA ?_)
    refine bF aK dO (oCS.mono fun r h=>⟨C,S,rfl,h⟩) ⟨_,⟨C,S,rfl,rfl⟩,rfl⟩ ?_
    rintro r hr -
    obtain rfl:=dP hr
    refine ⟨dF,_,_,_,_,_,dA,(by decide),aQ,?_⟩
    have m1:=wX (a:=G) (b:=e) (by omega) hge.2
    have m2:=wX (a:=g) (b:=E) hge.1 (by omega)
    by_cases c1:G > 0
    ·by_cases c2:wS C H nd.length<=B
     ·by_cases c3:G * e > g * E
      ·repeat (first|refine ah ?_|refine aH ?_|refine gX (by rfl) dK (by (try simp (disch:=omega) only [go_sem,reduceIte,Nat.reduceEqDiff,Nat.reduceAdd,Nat.reduceMul,hE]);try rfl) aV (by (try simp (disch:=omega) only [go_sem,hE]);try rfl) gy ?_|refine ag ?_|refine aJ ?_|refine aI ?_|refine dn (by rfl) (by rfl) (by (try simp (disch:=omega) only [go_sem,Int.reduceAdd,Int.reduceSub,Int.reduceMul,hE]);try rfl) ?_|refine ax ?_|refine ak ?_|refine ae ?_|refine dm ?_|refine ig (by rfl) (by rfl) (by (try simp (disch:=omega) only [go_sem,Int.reduceAdd,Int.reduceSub,Int.reduceMul,hE]);try rfl) ?_|refine mf (by rfl) (by rfl) (by (try simp (disch:=omega) only [go_sem,Int.reduceAdd,Int.reduceSub,Int.reduceMul,hE]);try rfl) ?_|refine dI ?_|refine bu ?_|refine aA ?_|refine FH (by rfl) (by omega) ?_)
       exact bQ [1,3,4,5,6,19,20,21] (i+1,some H,G,E) ⟨hin,⟨by simp only;omega,by simp only;omega⟩,fun x hx=>by cases hx;exact hfnd c2⟩ fC rfl
      ·repeat (first|refine ah ?_|refine aH ?_|refine gX (by rfl) dK (by (try simp (disch:=omega) only [go_sem,reduceIte,Nat.reduceEqDiff,Nat.reduceAdd,Nat.reduceMul,hE]);try rfl) aV (by (try simp (disch:=omega) only [go_sem,hE]);try rfl) gy ?_|refine ag ?_|refine aJ ?_|refine aI ?_|refine dn (by rfl) (by rfl) (by (try simp (disch:=omega) only [go_sem,Int.reduceAdd,Int.reduceSub,Int.reduceMul,hE]);try rfl) ?_|refine au ?_|refine ak ?_|refine ae ?_|refine dm ?_|refine aB ?_|refine ig (by rfl) (by rfl) (by (try simp (disch:=omega) only [go_sem,Int.reduceAdd,Int.reduceSub,Int.reduceMul,hE]);try rfl) ?_|refine mf (by rfl) (by rfl) (by (try simp (disch:=omega) only [go_sem,Int.reduceAdd,Int.reduceSub,Int.reduceMul,hE]);try rfl) ?_|refine dI ?_|refine bu ?_|refine aA ?_|refine FH (by rfl) (by omega) ?_)
       exact bQ [1,3,4,5,6,19,20,21] (i+1,some hh,g,e) ⟨hin,hge,hfo⟩ fC rfl
     ·repeat (first|refine ah ?_|refine aH ?_|refine bT ?_|refine gX (by rfl) dK (by (try simp (disch:=omega) only [go_sem,reduceIte,Nat.reduceEqDiff,Nat.reduceAdd,Nat.reduceMul,hE]);try rfl) aV (by (try simp (disch:=omega) only [go_sem,hE]);try rfl) gy ?_|refine ag ?_|refine aJ ?_|refine aI ?_|refine dn (by rfl) (by rfl) (by (try simp (disch:=omega) only [go_sem,Int.reduceAdd,Int.reduceSub,Int.reduceMul,hE]);try rfl) ?_|refine au ?_|refine ak ?_|refine ae ?_|refine dm ?_|refine aB ?_|refine rf (by rfl) (by rfl) ?_|refine ig (by rfl) (by rfl) (by (try simp (disch:=omega) only [go_sem,Int.reduceAdd,Int.reduceSub,Int.reduceMul,hE]);try rfl) ?_|refine dI ?_|refine bu ?_|refine aA ?_)
      exact bQ [1,3,4,5,6,19,20,21] (i+1,some hh,g,e) ⟨hin,hge,hfo⟩ fC rfl
    ·repeat (first|refine ah ?_|refine bT ?_|refine ag ?_|refine aI ?_|refine dn (by rfl) (by rfl) (by (try simp (disch:=omega) only [go_sem,Int.reduceAdd,Int.reduceSub,Int.reduceMul,hE]);try rfl) ?_|refine au ?_|refine ak ?_|refine ae ?_|refine dm ?_|refine aB ?_|refine rf (by rfl) (by rfl) ?_|refine ig (by rfl) (by rfl) (by (try simp (disch:=omega) only [go_sem,Int.reduceAdd,Int.reduceSub,Int.reduceMul,hE]);try rfl) ?_|refine bu ?_)
     exact bQ [1,3,4,5,6,19,20,21] (i+1,some hh,g,e) ⟨hin,hge,hfo⟩ fC rfl
 ·obtain rfl:i=nd.length:=by omega
  cases o with
  | none =>
   simp only [CY]
   repeat (first|refine Ie (by rfl) ?_|refine ah ?_|refine ag ?_|refine az ?_|refine bz (by rfl) ?_|refine ax ?_|refine au ?_|refine ak ?_|refine ae ?_|refine J8 (by rfl) ?_)
   refine ay ?_
   exact ⟨S,rfl,hS⟩
  | some hh =>
   simp only [CY]
   have hfh:=hfo hh rfl
   have hn0:0 < nd.length:=by
    have h1:=hfh.less
    have h2:=List.length_filter_le (fun b=>!b) S
    unfold yN at h1
    omega
   repeat (first|refine ah ?_|refine ag ?_|refine az ?_|refine bz (by rfl) ?_|refine au ?_|refine ak ?_|refine ae ?_|refine dm ?_|refine aB ?_|refine FH (by rfl) (by omega) ?_)
   exact bQ [1,3] hh hfh.sel hfh.less rfl
end Go.Proofs.Yteamkjblpglliaa
end
section
set_option linter.unusedSimpArgs false
set_option linter.unusedVariables false
namespace Go.Proofs.Yteamkjblpglliaa
open Go.RowKit Go.SL Go.HL
theorem DL:∀ {X S:List Bool},(∀u:Nat,S.getD u false=true->X.getD u false=true)->lexB X S=false
 | [],_,_=>by simp [lexB]
 | _ :: _,[],_=>by simp [lexB]
 | x :: xs,s :: ss,h=>by
  have h0:=h 0
  have hs:∀u:Nat,ss.getD u false=true->xs.getD u false=true:=fun u hu=>by simpa using h (u+1) (by simpa using hu)
  simp only [lexB]
  by_cases e:x=s
  ·rw [if_pos e];exact DL hs
  ·rw [if_neg e]
   cases x <;> cases s <;> simp_all
theorem GK {W C:List Int} {nd:List (List Nat)} {B:Int} {S:List Bool} (hlw:W.length=nd.length) (hc:∀i,0<=C.getD i 0) (hS:nI (ik W C 0 1) nd S) {X:List Bool} (hX:Sel C nd B X):lU W C nd.length X S=false:=by
 have e:∀Y,wS (ik W C 0 1) Y nd.length=wS W Y nd.length:=fun Y=>by
  rw [lL _ _ _ _ _ _ (by omega)];omega
 have h1:=hS.most X hX.len hX.closed
 have h2:=hS.least X hX.len hX.closed
 rw [e,e] at h1
 rw [e,e] at h2
 unfold lU
 by_cases e1:wS W X nd.length=wS W S nd.length
 ·rw [if_pos e1]
  have hsub:=h2 e1
  have h3:=xO hc hsub nd.length
  by_cases e2:wS C X nd.length=wS C S nd.length
  ·rw [if_pos e2];exact DL hsub
  ·rw [if_neg e2];simp only [decide_eq_false_iff_not];omega
 ·rw [if_neg e1];simp only [decide_eq_false_iff_not];omega
theorem FU {nd:List (List Nat)} {bad:List Bool} (g:Gr nd bad):U3 nd (iK nd nd.length 0):=by
 have hget:∀k,(iK nd nd.length 0).getD k []=if k < nd.length then lK nd nd.length k else []:=fun k=>by
  by_cases h:k < nd.length
  ·rw [yz nd _ _ h,if_pos h];simp [kK]
  ·rw [if_neg h,List.getD_eq_getElem?_getD,List.getElem?_eq_none (by rw [uo];omega)];rfl
 refine ⟨uo _ _ _,fun k j=>?_,fun k=>?_⟩
 ·rw [hget]
  by_cases h:k < nd.length
  ·rw [if_pos h];simp [lK]
  ·rw [if_neg h]
   constructor
   ·intro hx;cases hx
   ·rintro ⟨_,hx⟩;exact absurd (g.lt _ _ hx) h
 ·rw [hget]
  split
  ·unfold lK
   have:=List.length_filter_le (fun u=>decide (k∈nd.getD u [])) (List.range nd.length)
   simpa using this
  ·simp
end Go.Proofs.Yteamkjblpglliaa
end
