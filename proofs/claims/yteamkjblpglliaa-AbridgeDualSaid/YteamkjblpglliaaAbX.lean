import Derived.Test.YteamkjblpglliaaClHull
import Derived.Test.YteamkjblpglliaaClHul2
import Derived.Test.YteamkjblpglliaaAbC
set_option linter.unusedSimpArgs false
set_option linter.unusedVariables false
namespace Go.Proofs.Yteamkjblpglliaa
open Go.RowKit Go.SL Go.HL
structure BrP (W C:List Int) (nd:List (List Nat)) (B:Int) (s:Se) (inn out:List Bool):Prop where
 mul:Mul s.num s.den
 wok:WOK (gB W C s.num s.den)
 sel:Sel C nd B s.best
 st:0<=s.steps/\s.steps<=1048576
 il:inn.length=nd.length
 ic:dH nd inn
 ol:out.length=nd.length
 ou:Oz nd out
theorem mD {w:List Int} (h:∀i,0<=w.getD i 0/\w.getD i 0<=1048576) (X:List Bool):∀n:Nat,0<=wS w X n/\wS w X n<=(n:Int)*1048576
 | 0=>by simp [wS]
 | n+1=>by
  have ih:=mD h X n
  have:=h n
  simp only [wS]
  split<;>omega
def brD (n:Nat) (f0:FuncId) (q:Int):FuncId->List HV->HV->Prop:=fun f xs r=>(f=f0->r=.int .i64 q)/\(f≠f0->Ik n f xs r)
theorem oV {n:Nat} {f0 f:FuncId} {q:Int} {L:List Int} {X:List Bool} {r:HV} (hne:f≠f0):brD n f0 q f [.sl n (HL.ints L),.sl n (HL.bools X)] r <-> r=.int .i64 (wS L X n) :=
 ⟨fun h=>gz (h.2 hne),fun h=>⟨fun e=>absurd e hne,fun _=>⟨L,X,rfl,h⟩⟩⟩
theorem brD_q {n:Nat} {f0:FuncId} {q:Int} {xs:List HV} {r:HV}:brD n f0 q f0 xs r <-> r=.int .i64 q:=⟨fun h=>h.1 rfl,fun h=>⟨fun _=>h,fun e=>absurd rfl e⟩⟩
set_option maxHeartbeats 16000000 in
theorem II {W C:List Int} {nd us:List (List Nat)} {B:Int} (h:Pb W C nd B) (hu:U7 nd us):∀ (k:Nat) (s:Se) (inn out:List Bool),(gY (free inn out) nd.length).length<k->BrP W C nd B s inn out ->
  HTI Try.prog 44 [.optr (pW W C nd us B s),Bl inn,Bl out] [0] (fun r outs=>∃b s',r=.bool b/\outs=[.optr (pW W C nd us B s')]/\BrR W C nd B inn out s s' b):=by
 intro k
 induction k with
 | zero=>intro s inn out hk;omega
 | succ k ih =>
  intro s inn out hk hP
  have hsz:=h.g.size
  have hlw:=h.lw
  have hlc:=h.lc
  have hnl:(nd.map nl).length=nd.length:=by simp
  have hil:=hP.il
  have hol:=hP.ol
  have hbl:=hP.sel.len
  have hst:=hP.st
  have o1:=fD C inn h.cok (by omega) (by omega)
  simp only [I,Bl,hlc,hil] at o1
  simp only [pW,I,Bl,Gs,hlw,hlc,hbl,hil,hol,hnl]
  refine HTI.of rfl ae2 (Nat.le_of_ble_eq_true rfl) 3 [0] (by rfl) (by rfl) (⟨[(0,.pref 0 [] 0),(1,.sl nd.length (HL.bools inn)),(2,.sl nd.length (HL.bools out))],[(0,.optr [.sl nd.length (HL.ints W),.sl nd.length (HL.ints C),.sl nd.length (aZ (nd.map nl)),.int .i64 B,.int .i64 s.steps,.sl nd.length (HL.bools s.best),.int .i64 s.num,.int .i64 s.den,.int .i64 s.value,.sl s.set.length (HL.bools s.set),.sl s.flow.length (HL.ints s.flow),.sl (us.map nl).length (aZ (us.map nl))])],1⟩:St) rfl ?_
  unfold c44
  by_cases h0:s.steps=0
  ·repeat (first|refine ah ?_|refine aH ?_|refine ag ?_|refine aY ?_|refine ax ?_|refine ak ?_|refine ae ?_|refine aC ?_|refine cZ fP rfl ?_)
   refine jV (rs:=[6,0]) aJ jH ug ?_
   refine ⟨_,rfl,rfl,by simp,false,s,rfl,?_,.stop h0 hP.sel⟩
   simp only [pW,I,Bl,Gs,hlw,hlc,hbl,hnl]
   rfl
  ·repeat (first|refine ah ?_|refine aH ?_|refine ag ?_|refine aY ?_|refine au ?_|refine ak ?_|refine ae ?_|refine aA ?_|refine ik (by rfl) (by rfl) nV ?_|refine aC ?_|refine iI ?_|refine cZ fP rfl ?_)
   refine bQ bi bi (fun _ _ r=>r=.int .i64 (wS C inn nd.length)) ?_
   repeat (first|refine ah ?_|refine aH ?_|refine aC ?_|refine cZ fP rfl ?_)
   refine bG aJ dI o1 ⟨_,rfl,rfl⟩ ?_
   rintro _ rfl -
   refine ⟨dE,_,_,_,_,_,dw,(by decide),aQ,?_⟩
   by_cases hcost:wS C inn nd.length>B
   ·repeat (first|refine ah ?_|refine aH ?_|refine ag ?_|refine ax ?_|refine ak ?_|refine ae ?_|refine bn ?_|refine aC ?_|refine cZ fP rfl ?_)
    refine jV (rs:=[6,0]) aJ jH ug ?_
    refine ⟨_,rfl,rfl,by simp,true,{ s with steps:=s.steps - 1 },rfl,?_,rfl,?_,hP.sel,.refl _ _ _ _,fun _ X hX=>?_,fun _=>⟨rfl,?_⟩⟩
    ·simp only [pW,I,Bl,Gs,hlw,hlc,hbl,hnl]
     rfl
    ·simp only;omega
    ·have:=BQ (fun i=>(h.c i).1) hX.sub nd.length
     have:=hX.sel.cost
     omega
    ·have:=oP (gY (free inn out) nd.length).length
     simp only;omega
   ·have hof:=xx h us { s with steps:=s.steps - 1 } inn hbl hil
    obtain ⟨b1,hb1,hb1s⟩:=vT (W:=W) (C:=C) (n:=nd.length) (B:=B) (s:={ s with steps:=s.steps - 1 }) (set:=inn)
    have hb1l:b1.length=nd.length:=by rcases hb1s with e|e<;>rw [e];exact hil;exact hbl
    have k1:=ui (W:=W) (C:=C) (B:=B) (s:={ s with steps:=s.steps - 1 }) hil hbl
    have d1:=Ip (W:=W) (C:=C) (n:=nd.length) (B:=B) (s:={ s with steps:=s.steps - 1 }) (set:=inn) (by omega)
    have s1:=yw (W:=W) (s:={ s with steps:=s.steps - 1 }) hP.sel hil hP.ic
    rw [hb1] at hof k1 d1 s1
    simp only [pW,I,Bl,Gs,hlw,hlc,hbl,hil,hnl,hb1l] at hof k1 d1 s1
    repeat (first|refine ah ?_|refine aH ?_|refine ag ?_|refine au ?_|refine ak ?_|refine ae ?_|refine aA ?_|refine bn ?_|refine aC ?_|refine cZ fP rfl ?_)
    refine pz [0] [0] aJ jH ug rfl (by decide) (hof) ?_
    rintro _ _ ⟨rfl,rfl⟩ -
    refine ⟨_,_,_,_,_,dw,(by decide),wV,?_⟩
    repeat (first|refine ah ?_|refine ag ?_|refine ak ?_|refine ae ?_|refine aB ?_)
    refine bD [0,1,2,7] (fun i:Nat=>i<=nd.length/\∀j,j<i->free inn out j=false)
     (fun i=>⟨[(0,.pref 0 [] 0),(1,.sl nd.length (HL.bools inn)),(2,.sl nd.length (HL.bools out)),(7,.int .i64 i)],[(0,.optr [.sl nd.length (HL.ints W),.sl nd.length (HL.ints C),.sl nd.length (aZ (nd.map nl)),.int .i64 B,.int .i64 (s.steps - 1),.sl nd.length (HL.bools b1),.int .i64 s.num,.int .i64 s.den,.int .i64 s.value,.sl s.set.length (HL.bools s.set),.sl s.flow.length (HL.ints s.flow),.sl (us.map nl).length (aZ (us.map nl))])],1⟩) (fun i=>nd.length - i) 0 ⟨by omega,by omega⟩ rfl ?_
    rintro i ⟨hi,hfr⟩
    by_cases hin:i<nd.length
    ·cases hf:free inn out i with
     | false =>
      have hfr':∀j,j<i+1->free inn out j=false:=fun j hj=>by
       by_cases hji:j<i
       ·exact hfr j hji
       ·obtain rfl:j=i:=by omega
        exact hf
      cases h1:inn.getD i false with
      | true =>
       repeat (first|refine ah ?_|refine aG ?_|refine bZ ?_|refine aN ?_|refine bK (by rfl) aT (by (try simp (disch:=omega) only [go_sem,h1]);try rfl) ?_|refine ag ?_|refine az ?_|refine aK ?_|refine di (by rfl) (by rfl) (by (try simp (disch:=omega) only [go_sem,Int.reduceAdd,Int.reduceSub,Int.reduceMul,h1]);try rfl) ?_|refine aF ?_|refine ax ?_|refine ak ?_|refine ae ?_|refine aB ?_|refine dh ?_|refine aA ?_)
       exact bJ [0,1,2,7] (i+1) ⟨hin,hfr'⟩ (by omega) rfl
      | false =>
       have h2:out.getD i false=true:=by
        unfold free at hf;rw [h1] at hf;simpa using hf
       repeat (first|refine ah ?_|refine aG ?_|refine aN ?_|refine bK (by rfl) aT (by (try simp (disch:=omega) only [go_sem,h1,h2]);try rfl) ?_|refine ag ?_|refine az ?_|refine aK ?_|refine aI ?_|refine di (by rfl) (by rfl) (by (try simp (disch:=omega) only [go_sem,Int.reduceAdd,Int.reduceSub,Int.reduceMul,h1,h2]);try rfl) ?_|refine aF ?_|refine ax ?_|refine ak ?_|refine ae ?_|refine aB ?_|refine dh ?_|refine aA ?_)
       exact bJ [0,1,2,7] (i+1) ⟨hin,hfr'⟩ (by omega) rfl
     | true =>
      have h1:inn.getD i false=false:=by unfold free at hf;simp only [Bool.and_eq_true,Bool.not_eq_true'] at hf;exact hf.1
      have h2:out.getD i false=false:=by unfold free at hf;simp only [Bool.and_eq_true,Bool.not_eq_true'] at hf;exact hf.2
      have hrs:=Nw (us:=us) h { s with steps:=s.steps - 1,best:=b1 } hP.mul hP.wok inn out hil hol (by omega) hP.ic hP.ou
      simp only [pW,I,Bl,Gs,hlw,hlc,hil,hol,hnl,hb1l] at hrs
      repeat (first|refine ah ?_|refine aG ?_|refine aN ?_|refine bK (by rfl) aT (by (try simp (disch:=omega) only [go_sem,h1,h2]);try rfl) ?_|refine ag ?_|refine az ?_|refine aY ?_|refine aK ?_|refine aI ?_|refine aF ?_|refine aO ?_|refine au ?_|refine ak ?_|refine ae ?_|refine aA ?_)
      refine bf aJ (by simp (disch:=omega) only [dL,fC,HV.thaw,dC,aX,bg,if_true,if_false,reduceIte,Nat.reduceEqDiff,stripL,HV.strip,fF,dJ,eG,Nat.mul_one,List.cons_append,List.nil_append,List.append_nil,I,Bl,T3,Es,List.getD_cons_zero,List.getD_cons_succ,HL.ints_strip,HL.bools_strip,eu,dS];try rfl) (hrs) ?_
      rintro _ ⟨A,v,rfl,hR⟩
      refine ⟨dE,_,_,_,_,_,dw,(by decide),aQ,?_⟩
      repeat (first|refine ah ?_|refine ag ?_|refine bU ?_)
      have hAl:=hR.len
      have hE:stripL (win (HL.bools A) 0 (nd.length*1))=HL.bools A:=by rw [dJ _ (by omega),HL.bools_strip]
      refine kE 369 [0,1,2,7,8,9] (⟨[(0,.pref 0 [] 0),(1,.sl nd.length (HL.bools inn)),(2,.sl nd.length (HL.bools out)),(7,.int .i64 i),(8,.sl nd.length (HL.bools A)),(9,.int .i64 v)],[(0,.optr [.sl nd.length (HL.ints W),.sl nd.length (HL.ints C),.sl nd.length (aZ (nd.map nl)),.int .i64 B,.int .i64 (s.steps - 1),.sl nd.length (HL.bools b1),.int .i64 s.num,.int .i64 s.den,.int .i64 s.value,.sl s.set.length (HL.bools s.set),.sl s.flow.length (HL.ints s.flow),.sl (us.map nl).length (aZ (us.map nl))])],1⟩:St) (congrArg (fun c:List HV=>(⟨[(0,.pref 0 [] 0),(1,.sl nd.length (HL.bools inn)),(2,.sl nd.length (HL.bools out)),(7,.int .i64 i),(8,.sl nd.length c),(9,.int .i64 v)],[(0,.optr [.sl nd.length (HL.ints W),.sl nd.length (HL.ints C),.sl nd.length (aZ (nd.map nl)),.int .i64 B,.int .i64 (s.steps - 1),.sl nd.length (HL.bools b1),.int .i64 s.num,.int .i64 s.den,.int .i64 s.value,.sl s.set.length (HL.bools s.set),.sl s.flow.length (HL.ints s.flow),.sl (us.map nl).length (aZ (us.map nl))])],1⟩:St)) hE) ?_
      have hof2:=xx h us { s with steps:=s.steps - 1,best:=b1 } A hb1l hAl
      obtain ⟨b2,hb2,hb2s⟩:=vT (W:=W) (C:=C) (n:=nd.length) (B:=B) (s:={ s with steps:=s.steps - 1,best:=b1 }) (set:=A)
      have hb2l:b2.length=nd.length:=by rcases hb2s with e|e<;>rw [e];exact hAl;exact hb1l
      have k2:=ui (W:=W) (C:=C) (B:=B) (s:={ s with steps:=s.steps - 1,best:=b1 }) hAl hb1l
      have s2:=yw (W:=W) (s:={ s with steps:=s.steps - 1,best:=b1 }) s1 hAl hR.closed
      rw [hb2] at hof2 k2 s2
      simp only [pW,I,Bl,Gs,hlw,hlc,hAl,hnl,hb1l,hb2l] at hof2 k2 s2
      repeat (first|refine ah ?_|refine ak ?_|refine ae ?_)
      refine pz [0] [0] aJ jH ug rfl (by decide) (hof2) ?_
      rintro _ _ ⟨rfl,rfl⟩ -
      refine ⟨_,_,_,_,_,dw,(by decide),wV,?_⟩
      repeat (first|refine ag ?_|refine ak ?_)
      refine bQ bi bi (fun _ _ _=>False) ?_
      repeat (first|refine ah ?_|refine aH ?_|refine ag ?_|refine ak ?_|refine aC ?_|refine cZ fP rfl ?_)
      obtain ⟨hnum,hden⟩:=hP.mul
      have hBb:=h.b
      have w1:=mD h.w inn nd.length
      have w2:=mD h.c inn nd.length
      have m1:=mX (a:=s.den) (b:=wS W inn nd.length) (by omega) (by omega) w1.1 (by omega)
      have m2:=mX (a:=s.num) (b:=wS C inn nd.length) (by omega) (by omega) w2.1 (by omega)
      have m3:=mX (a:=s.num) (b:=B) (by omega) (by omega) hBb.1 (by omega)
      have hvb:=hR.bd
      have o2:=fD W inn h.wok (by omega) (by omega)
      have o3:=fD W b2 h.wok (by omega) (by omega)
      simp only [I,Bl,hlw,hil,hb2l] at o2 o3
      have o4:=Bj (v+s.den*wS W inn nd.length - s.num*wS C inn nd.length+s.num*B) s.den (by omega) (by omega) (by omega) (by omega)
      refine bQ bi bi (brD nd.length 47 ((v+s.den*wS W inn nd.length - s.num*wS C inn nd.length+s.num*B) / s.den)) ?_
      repeat (first|refine ah ?_|refine aH ?_|refine aC ?_|refine cZ fP rfl ?_)
      refine bG aJ dI (o2.mono fun r h=>(oV (by decide)).2 h) ⟨_,(oV (by decide)).2 rfl,rfl⟩ ?_
      rintro r hr -
      obtain rfl:=(oV (by decide)).1 hr
      refine ⟨dE,_,_,_,_,_,dw,(by decide),aQ,?_⟩
      repeat (first|refine ah ?_|refine aH ?_|refine bz ?_|refine lg (by rfl) (by rfl) nV ?_|refine aC ?_|refine cZ fP rfl ?_)
      refine bG aJ dI (o1.mono fun r h=>(oV (by decide)).2 h) ⟨_,(oV (by decide)).2 rfl,rfl⟩ ?_
      rintro r hr -
      obtain rfl:=(oV (by decide)).1 hr
      refine ⟨dE,_,_,_,_,_,dw,(by decide),aQ,?_⟩
      repeat (first|refine ah ?_|refine aH ?_|refine bz ?_|refine ik (by rfl) (by rfl) nV ?_|refine lg (by rfl) (by rfl) nV ?_|refine aC ?_|refine cZ fP rfl ?_)
      refine bG aJ dI (o4.mono fun r h=>brD_q.2 h) ⟨_,brD_q.2 rfl,rfl⟩ ?_
      rintro r hr -
      obtain rfl:=brD_q.1 hr
      refine ⟨dE,_,_,_,_,_,dw,(by decide),aQ,?_⟩
      repeat (first|refine ah ?_|refine aH ?_|refine aC ?_|refine cZ fP rfl ?_)
      refine bG aJ dI (o3.mono fun r h=>(oV (by decide)).2 h) ⟨_,(oV (by decide)).2 rfl,rfl⟩ ?_
      rintro r hr -
      obtain rfl:=(oV (by decide)).1 hr
      refine ⟨dE,_,_,_,_,_,dw,(by decide),aQ,?_⟩
      by_cases hcut:(v+s.den*wS W inn nd.length - s.num*wS C inn nd.length+s.num*B) / s.den<wS W b2 nd.length
      ·repeat (first|refine ah ?_|refine ag ?_|refine az ?_|refine ax ?_|refine ak ?_|refine ae ?_)
       refine jV (rs:=[6,0]) aJ jH ug ?_
       refine ⟨_,rfl,rfl,by simp,true,{ s with steps:=s.steps - 1,best:=b2 },rfl,?_,rfl,?_,s2,k1.trans k2,fun _ X hX=>?_,fun _=>⟨rfl,?_⟩⟩
       ·simp only [pW,I,Bl,Gs,hlw,hlc,hb2l,hnl]
        rfl
       ·simp only;omega
       ·exact prune hlw hP.mul hR hcut hX
       ·have:=oP (gY (free inn out) nd.length).length
        simp only;omega
      ·have hwo:=Gz h hu { s with steps:=s.steps - 1,best:=b2 } out i hol hin
       simp only [pW,I,Bl,Gs,hlw,hlc,hol,hnl,hb2l] at hwo
       have hih:=fun (st:Int) (b:List Bool) (inn' out':List Bool) (hbl':b.length=nd.length) (hi':inn'.length=nd.length) (ho':out'.length=nd.length) (hlt:(gY (free inn' out') nd.length).length<(gY (free inn out) nd.length).length) (hP':BrP W C nd B { s with steps:=st,best:=b } inn' out') =>
        (ih { s with steps:=st,best:=b } inn' out' (by omega) hP').mono (K':=fun r outs=>∃q st3 b3,r=.bool q/\outs=[.optr [.sl nd.length (HL.ints W),.sl nd.length (HL.ints C),.sl nd.length (aZ (nd.map nl)),.int .i64 B,.int .i64 st3,.sl nd.length (HL.bools b3),.int .i64 s.num,.int .i64 s.den,.int .i64 s.value,.sl s.set.length (HL.bools s.set),.sl s.flow.length (HL.ints s.flow),.sl (us.map nl).length (aZ (us.map nl))]]/\b3.length=nd.length/\BrR W C nd B inn' out' { s with steps:=st,best:=b } { s with steps:=st3,best:=b3 } q) (by
         rintro r o ⟨q,s',rfl,rfl,hB⟩
         have e:=hB.same
         have hl3:=hB.sel.len
         obtain ⟨st3,b3,e3⟩:∃st3 b3,s'={ s with steps:=st3,best:=b3 }:=⟨_,_,e⟩
         subst e3
         refine ⟨q,st3,b3,rfl,?_,hl3,hB⟩
         simp only [pW,I,Bl,Gs,hlw,hlc,hnl,hl3])
       repeat (first|refine ah ?_|refine ag ?_|refine az ?_|refine au ?_|refine ak ?_|refine ae ?_|refine aA ?_)
       refine bf aJ (by simp (disch:=omega) only [dL,fC,HV.thaw,dC,aX,bg,if_true,if_false,reduceIte,Nat.reduceEqDiff,stripL,HV.strip,fF,dJ,eG,Nat.mul_one,List.cons_append,List.nil_append,List.append_nil,I,Bl,T3,Es,List.getD_cons_zero,List.getD_cons_succ,HL.ints_strip,HL.bools_strip,eu,dS];try rfl) (hwo) ?_
       rintro _ ⟨D,rfl,hD⟩
       refine ⟨dE,_,_,_,_,_,dw,(by decide),aQ,?_⟩
       have hiD:free inn D i=false:=by unfold free;rw [hD.has];simp
       have hlt1:(gY (free inn D) nd.length).length<(gY (free inn out) nd.length).length:=Ee (fun j hj=>by
        unfold free at hj ⊢
        simp only [Bool.and_eq_true,Bool.not_eq_true'] at hj ⊢
        refine ⟨hj.1,?_⟩
        cases ho:out.getD j false with
        | false=>rfl
        | true=>have:=hD.sub j ho;rw [hj.2] at this;cases this) hin hf hiD
       have hr1:=hih (s.steps - 1) b2 inn D hb2l hil hD.len hlt1 ⟨hP.mul,hP.wok,s2,by simp only;omega,hil,hP.ic,hD.len,hD.up hP.ou⟩
       simp only [pW,I,Bl,Gs,hlw,hlc,hil,hD.len,hnl,hb2l] at hr1
       have hr1':=HTI.ro (pre:=[_,_]) (post:=[]) (sz:=1) (n:=nd.length) (cs:=HL.bools D) (by rw [HL.bools_strip];exact hr1)
       skip
       refine pz [0] [0] aJ jH ug rfl (by decide) (hr1') ?_
       rintro _ _ ⟨q1,st3,b3,rfl,rfl,hb3l,hB1⟩ -
       refine ⟨_,_,_,_,_,dw,(by decide),wV,?_⟩
       cases q1 with
       | false =>
        repeat (first|refine ah ?_|refine ag ?_|refine ax ?_|refine ak ?_|refine ae ?_|refine gZ (by rfl) ?_)
        refine jV (rs:=[6,0]) aJ jH ug ?_
        refine ⟨_,rfl,rfl,by simp,false,{ s with steps:=st3,best:=b3 },rfl,?_,rfl,?_,hB1.sel,(k1.trans k2).trans hB1.keeps,by simp,fun hen=>?_⟩
        ·simp only [pW,I,Bl,Gs,hlw,hlc,hb3l,hnl]
         rfl
        ·have:=hB1.steps;simp only at this ⊢;omega
        ·have h1:=Ib hlt1 hlt1
         have h2:=oP (gY (free inn D) nd.length).length
         have:=(hB1.enough dV).1
         cases this
       | true =>
        have hset:=fun x=>lV inn i x true (by omega)
        have hsl:(inn.set i true).length=nd.length:=by simp [hil]
        have hhull:=(BB (nd.map nl) (inn.set i true) (by omega) (by omega) (fun x=>by rw [dM,fH];have:=h.g.len x;omega)).mono (K':=fun r=>∃H,r=.osl 1 nd.length (HL.bools H)/\xA (nd.map nl) (inn.set i true) H) (by
         rintro _ ⟨H,rfl,⟨hf0,-⟩|⟨-,hH⟩⟩
         ·rw [sD h.g hsl] at hf0;cases hf0
         ·exact ⟨H,by rw [hH.len,hsl],hH⟩)
        have hcl:=nX inn (by omega) (by omega)
        simp only [Gs,Bl,hnl,hsl,hil] at hhull hcl
        repeat (first|refine ah ?_|refine ag ?_|refine au ?_|refine ak ?_|refine ae ?_|refine aA ?_|refine dR (by rfl) ?_)
        refine bf aJ dI (hcl) ?_
        rintro _ rfl
        refine ⟨dE,_,_,_,_,_,dw,(by decide),aQ,?_⟩
        repeat (first|refine ah ?_|refine bY ?_|refine aH ?_|refine ag ?_|refine ak ?_|refine ae ?_|refine aC ?_|refine iI ?_|refine cZ fP rfl ?_)
        refine bf aJ (by simp (disch:=omega) only [dL,fC,HV.thaw,dC,aX,bg,if_true,if_false,reduceIte,Nat.reduceEqDiff,stripL,HV.strip,fF,dJ,eG,Nat.mul_one,List.cons_append,List.nil_append,List.append_nil,I,Bl,T3,Es,List.getD_cons_zero,List.getD_cons_succ,HL.ints_strip,HL.bools_strip,eu,dS];try rfl) (hhull) ?_
        rintro _ ⟨H,rfl,hH⟩
        refine ⟨dE,_,_,_,_,_,dw,(by decide),aQ,?_⟩
        have hHl:H.length=nd.length:=by rw [hH.len,hsl]
        have hHi:H.getD i false=true:=hH.sup i (by rw [hset,if_pos rfl])
        have hHs:∀u:Nat,inn.getD u false=true->H.getD u false=true:=fun u hu=>hH.sup u (by rw [hset];split;rfl;exact hu)
        have hlt2:(gY (free H out) nd.length).length<(gY (free inn out) nd.length).length:=Ee (fun j hj=>by
         unfold free at hj ⊢
         simp only [Bool.and_eq_true,Bool.not_eq_true'] at hj ⊢
         refine ⟨?_,hj.2⟩
         cases ho:inn.getD j false with
         | false=>rfl
         | true=>have:=hHs j ho;rw [hj.1] at this;cases this) hin hf (by unfold free;rw [hHi];rfl)
        have hst3:=hB1.steps
        simp only at hst3
        have hr2:=hih st3 b3 H out hb3l hHl hol hlt2 ⟨hP.mul,hP.wok,hB1.sel,by simp only;omega,hHl,closedN_Y.1 hH.closed,hol,hP.ou⟩
        simp only [pW,I,Bl,Gs,hlw,hlc,hol,hHl,hnl,hb3l] at hr2
        have hr2':=HTI.ro (pre:=[_]) (post:=[_]) (sz:=1) (n:=nd.length) (cs:=HL.bools H) (by rw [HL.bools_strip];exact hr2)
        repeat (first|refine ah ?_)
        refine pz [0] [0] aJ jH ug rfl (by decide) (hr2') ?_
        rintro _ _ ⟨q2,st4,b4,rfl,rfl,hb4l,hB2⟩ -
        refine ⟨_,_,_,_,_,dw,(by decide),wV,?_⟩
        repeat (first|refine ah ?_|refine ag ?_)
        refine jV (rs:=[6,0]) aJ jH ug ?_
        have hst4:=hB2.steps
        simp only at hst4
        refine ⟨_,rfl,rfl,by simp,q2,{ s with steps:=st4,best:=b4 },rfl,?_,rfl,?_,hB2.sel,((k1.trans k2).trans hB1.keeps).trans hB2.keeps,fun hq X hX=>?_,fun hen=>?_⟩
        ·simp only [pW,I,Bl,Gs,hlw,hlc,hb4l,hnl]
         rfl
        ·simp only;omega
        ·cases hXi:X.getD i false with
         | false=>exact hB2.keeps X hX.sel.len (hB1.all rfl X ⟨hX.sel,hX.sub,hD.fix X hX.sel.closed hX.apart hXi⟩)
         | true =>
          refine hB2.all hq X ⟨hX.sel,hH.least X (closedN_Y.2 hX.sel.closed) fun u hu=>?_,hX.apart⟩
          rw [hset] at hu
          split at hu
          ·rename_i e;rw [<- e];exact hXi
          ·exact hX.sub u hu
        ·have h1:=Ib hlt1 hlt2
         have h2:=oP (gY (free inn D) nd.length).length
         have h3:=oP (gY (free H out) nd.length).length
         have e1:=(hB1.enough dV).2
         simp only at e1
         have e2:=hB2.enough dV
         simp only at e2
         exact ⟨e2.1,by simp only;omega⟩
    ·obtain rfl:i=nd.length:=by omega
     repeat (first|refine ah ?_|refine bZ ?_|refine ag ?_|refine az ?_|refine aY ?_|refine aI ?_|refine aF ?_|refine aO ?_|refine ax ?_|refine au ?_|refine ak ?_|refine ae ?_|refine tu (by rfl) (by rfl) ?_)
     refine jV (rs:=[6,0]) aJ jH ug ?_
     refine ⟨_,rfl,rfl,by simp,true,{ s with steps:=s.steps - 1,best:=b1 },rfl,?_,rfl,?_,s1,k1,fun _ X hX=>?_,fun _=>⟨rfl,?_⟩⟩
     ·simp only [pW,I,Bl,Gs,hlw,hlc,hb1l,hnl]
      rfl
     ·simp only;omega
     ·have:X=inn:=by
       apply List.ext_getElem
       ·rw [hX.sel.len,hil]
       ·intro j hj1 hj2
        have hjn:j<nd.length:=by omega
        have e1:=gW (d:=false) hj1
        have e2:=gW (d:=false) hj2
        rw [<- e1,<- e2]
        have:=hfr j hjn
        cases hij:inn.getD j false with
        | true=>exact hX.sub j hij
        | false =>
         unfold free at this
         rw [hij] at this
         exact hX.apart j (by simpa using this)
      subst this
      exact d1
     ·have:=oP (gY (free inn out) nd.length).length
      simp only;omega
end Go.Proofs.Yteamkjblpglliaa
