import Derived.Test.YteamkjblpglliaaClFits
set_option linter.unusedSimpArgs false
set_option linter.unusedVariables false
namespace Go.Proofs.Yteamkjblpglliaa
open Go.RowKit Go.SL Go.HL
structure VW (w:List Int) (needs:List (List Int)):Prop where
 len:w.length=needs.length
 size:needs.length<=256
 ws:∀i,i<needs.length -> -2147483648<=w.getD i 0/\w.getD i 0<=2147483648
 ok:∀i,i<needs.length->∀k,k<(needs.getD i []).length->Ue needs i k
set_option maxHeartbeats 4000000 in
theorem zN (w:List Int) (needs:List (List Int)) (h1:needs.length<=9223372036854775807) (h2:w.length<=9223372036854775807) (h3:∀i,(needs.getD i []).length<=9223372036854775807):HT Try.prog 39 [I w,Gs needs] (fun r=>∃b,r=.bool b/\(b=true <-> VW w needs)):=by
 refine HT.of rfl ae4 (Nat.le_of_ble_eq_true rfl) ?_
 unfold c39
 simp only [Gs,I,aP,Nat.reduceAdd]
 by_cases hb:w.length=needs.length
 ·by_cases hs:needs.length>256
  ·repeat (first|refine ah ?_|refine aG ?_|refine ag ?_|refine aW ?_|refine aI ?_|refine aF ?_|refine ax ?_|refine ak ?_|refine ae ?_|refine bn ?_)
   refine ay ?_
   exact ⟨false,rfl,by simp;intro h;have:=h.size;omega⟩
  repeat (first|refine ah ?_|refine aG ?_|refine ag ?_|refine aW ?_|refine aI ?_|refine aF ?_|refine au ?_|refine ak ?_|refine ae ?_|refine aB ?_|refine aA ?_|refine bn ?_)
  refine bD [0,1,19,20,21] (fun i:Nat=>i<=needs.length/\(∀j,j<i -> -2147483648<=w.getD j 0/\w.getD j 0<=2147483648)/\∀j,j<i->∀k,k<(needs.getD j []).length->Ue needs j k) (fun i=>⟨[(0,.sl w.length (HL.ints w)),(1,.sl needs.length (aZ needs)),(19,.sl needs.length (aZ needs)),(20,.int .i64 needs.length),(21,.int .i64 i)],[],0⟩) (fun i=>needs.length - i) 0 ⟨by omega,by omega,by omega⟩ rfl ?_
  rintro i ⟨hi,hwo,ho⟩
  by_cases hin:i<needs.length
  ·have hlen:=h3 i
   obtain ⟨x,hx⟩:∃x,w.getD i 0=x:=⟨_,rfl⟩
   by_cases hx1:x < -2147483648
   ·repeat (first|refine ah ?_|refine bZ ?_|refine aN ?_|refine bK (by rfl) aT (by (try simp (disch:=omega) only [go_sem,hx]);try rfl) ?_|refine ag ?_|refine az ?_|refine aK ?_|refine ax ?_|refine ak ?_|refine ae ?_|refine aB ?_|refine aA ?_)
    refine ay ?_
    exact ⟨false,rfl,by simp;intro h;have:=h.ws i hin;omega⟩
   by_cases hx2:x>2147483648
   ·repeat (first|refine ah ?_|refine aG ?_|refine aN ?_|refine bK (by rfl) aT (by (try simp (disch:=omega) only [go_sem,hx]);try rfl) ?_|refine ag ?_|refine az ?_|refine aI ?_|refine ax ?_|refine ak ?_|refine ae ?_|refine aB ?_|refine aA ?_|refine bn ?_)
    refine ay ?_
    exact ⟨false,rfl,by simp;intro h;have:=h.ws i hin;omega⟩
   repeat (first|refine ah ?_|refine aG ?_|refine aN ?_|refine bK (by rfl) aT (by (try simp (disch:=omega) only [go_sem,hx]);try rfl) ?_|refine ag ?_|refine az ?_|refine aI ?_|refine aF ?_|refine ax ?_|refine au ?_|refine ak ?_|refine ae ?_|refine aB ?_|refine aA ?_|refine bn ?_)
   refine bD [0,1,6,19,20,21,38,39,40] (fun k:Nat=>k<=(needs.getD i []).length/\∀q,q<k->Ue needs i q) (fun k=>⟨[(0,.sl w.length (HL.ints w)),(1,.sl needs.length (aZ needs)),(6,.sl (needs.getD i []).length (HL.ints (needs.getD i []))),(19,.sl needs.length (aZ needs)),(20,.int .i64 needs.length),(21,.int .i64 i),(38,.sl (needs.getD i []).length (HL.ints (needs.getD i []))),(39,.int .i64 (needs.getD i []).length),(40,.int .i64 k)],[],0⟩) (fun k=>(needs.getD i []).length - k) 0 ⟨by omega,by omega⟩ rfl ?_
   rintro k ⟨hk,hq⟩
   by_cases hkl:k<(needs.getD i []).length
   ·have hk1:((k:Int) - 1).toNat=k - 1:=by omega
    by_cases c1:(needs.getD i []).getD k 0<0
    ·by_cases hk0:0<k <;>
     ·repeat (first|refine ah ?_|refine bZ ?_|refine aN ?_|refine bK (by rfl) aT (by (try simp (disch:=omega) only [go_sem,hk1]);try rfl) ?_|refine ag ?_|refine az ?_|refine aK ?_|refine ax ?_|refine ak ?_|refine ae ?_|refine aB ?_|refine aA ?_|refine tu (by rfl) (by rfl) ?_)
      refine ay ?_
      exact ⟨false,rfl,by simp;intro h;have:=(h.ok i hin k hkl).1;omega⟩
    by_cases c2:(needs.getD i []).getD k 0 ≥ needs.length
    ·by_cases hk0:0<k <;>
     ·repeat (first|refine ah ?_|refine aG ?_|refine bZ ?_|refine aN ?_|refine bK (by rfl) aT (by (try simp (disch:=omega) only [go_sem,hk1]);try rfl) ?_|refine ag ?_|refine az ?_|refine aK ?_|refine aI ?_|refine aF ?_|refine ax ?_|refine ak ?_|refine ae ?_|refine aB ?_|refine aA ?_|refine tu (by rfl) (by rfl) ?_|refine dG ?_)
      refine ay ?_
      exact ⟨false,rfl,by simp;intro h;have:=(h.ok i hin k hkl).2.1;omega⟩
    by_cases hk0:0<k
    ·by_cases c3:(needs.getD i []).getD k 0<=(needs.getD i []).getD (k - 1) 0
     ·repeat (first|refine ah ?_|refine aG ?_|refine aN ?_|refine bK (by rfl) aT (by (try simp (disch:=omega) only [go_sem,hk1]);try rfl) ?_|refine ag ?_|refine az ?_|refine aK ?_|refine aI ?_|refine aF ?_|refine ax ?_|refine ak ?_|refine ae ?_|refine aB ?_|refine aA ?_|refine ik (by rfl) (by rfl) (by (try simp (disch:=omega) only [go_sem,Int.reduceAdd,Int.reduceSub,Int.reduceMul,hk1]);try rfl) ?_|refine dU ?_|refine bn ?_|refine dG ?_)
      refine ay ?_
      exact ⟨false,rfl,by simp;intro h;have:=(h.ok i hin k hkl).2.2 hk0;omega⟩
     ·repeat (first|refine ah ?_|refine aG ?_|refine aN ?_|refine bK (by rfl) aT (by (try simp (disch:=omega) only [go_sem,hk1]);try rfl) ?_|refine ag ?_|refine az ?_|refine aK ?_|refine aI ?_|refine di (by rfl) (by rfl) (by (try simp (disch:=omega) only [go_sem,Int.reduceAdd,Int.reduceSub,Int.reduceMul,hk1]);try rfl) ?_|refine aF ?_|refine ax ?_|refine au ?_|refine ak ?_|refine ae ?_|refine aB ?_|refine dh ?_|refine aA ?_|refine ik (by rfl) (by rfl) (by (try simp (disch:=omega) only [go_sem,Int.reduceAdd,Int.reduceSub,Int.reduceMul,hk1]);try rfl) ?_|refine dU ?_|refine bn ?_|refine dG ?_)
      refine bJ [0,1,6,19,20,21,38,39,40] (k+1) ⟨hkl,fun q hq'=>?_⟩ (by omega) rfl
      by_cases e:q=k
      ·subst e;exact ⟨by omega,by omega,fun _=>by omega⟩
      ·exact hq q (by omega)
    ·repeat (first|refine ah ?_|refine aG ?_|refine bZ ?_|refine aN ?_|refine bK (by rfl) aT (by (try simp (disch:=omega) only [go_sem,hk1]);try rfl) ?_|refine ag ?_|refine az ?_|refine aI ?_|refine di (by rfl) (by rfl) (by (try simp (disch:=omega) only [go_sem,Int.reduceAdd,Int.reduceSub,Int.reduceMul,hk1]);try rfl) ?_|refine aF ?_|refine ax ?_|refine au ?_|refine ak ?_|refine ae ?_|refine aB ?_|refine dh ?_|refine aA ?_|refine bn ?_|refine dG ?_)
     refine bJ [0,1,6,19,20,21,38,39,40] (k+1) ⟨hkl,fun q hq'=>?_⟩ (by omega) rfl
     by_cases e:q=k
     ·subst e;exact ⟨by omega,by omega,fun _=>by omega⟩
     ·exact hq q (by omega)
   ·repeat (first|refine ah ?_|refine ag ?_|refine az ?_|refine bz ?_|refine aO ?_|refine au ?_|refine ak ?_|refine ae ?_|refine dh ?_)
    refine bJ [0,1,19,20,21] (i+1) ⟨hin,fun j hj=>?_,fun j hj q hq'=>?_⟩ (by omega) rfl
    ·by_cases e:j=i
     ·subst e;omega
     ·exact hwo j (by omega)
    ·by_cases e:j=i
     ·subst e;exact hq q (by omega)
     ·exact ho j (by omega) q hq'
  ·repeat (first|refine ah ?_|refine ag ?_|refine az ?_|refine aO ?_|refine au ?_|refine ak ?_|refine ae ?_)
   refine ay ?_
   exact ⟨true,rfl,by simp;exact ⟨hb,by omega,fun j hj=>hwo j (by omega),fun j hj=>ho j (by omega)⟩⟩
 ·repeat (first|refine ah ?_|refine bZ ?_|refine ag ?_|refine aW ?_|refine aK ?_|refine aF ?_|refine ax ?_|refine ak ?_|refine ae ?_)
  refine ay ?_
  exact ⟨false,rfl,by simp;intro h;exact hb h.len⟩
theorem VW.vg {w:List Int} {needs:List (List Int)}:VW w needs <-> w.length=needs.length/\(∀i,i<needs.length -> -2147483648<=w.getD i 0/\w.getD i 0<=2147483648)/\VG needs (List.replicate needs.length false) :=
 ⟨fun h=>⟨h.len,h.ws,h.size,by simp,h.ok⟩,fun ⟨a,b,c⟩=>⟨a,c.size,b,c.ok⟩⟩
theorem EJ (n:Nat):(List.replicate n [HV.bool false]).flatten=HL.bools (List.replicate n false):=by
 induction n with
 | zero=>rfl
 | succ n ih=>simp only [List.replicate_succ,List.flatten_cons,ih];rfl
set_option maxHeartbeats 4000000 in
theorem qH (w:List Int) (needs:List (List Int)) (h1:needs.length<=9223372036854775807) (h2:w.length<=9223372036854775807) (h3:∀i,(needs.getD i []).length<=9223372036854775807):HT Try.prog 58 [I w,Gs needs] (fun r=>∃b,r=.bool b/\(b=true <-> VW w needs)):=by
 refine HT.of rfl aeG (Nat.le_of_ble_eq_true rfl) ?_
 unfold c58
 simp only [Gs,I,aP,Nat.reduceAdd]
 by_cases hb:w.length=needs.length
 ·by_cases hs:needs.length>256
  ·repeat (first|refine ah ?_|refine aG ?_|refine ag ?_|refine aW ?_|refine aI ?_|refine aF ?_|refine ax ?_|refine ak ?_|refine ae ?_|refine bn ?_)
   refine ay ?_
   exact ⟨false,rfl,by simp;intro h;have:=h.size;omega⟩
  repeat (first|refine ah ?_|refine aG ?_|refine ag ?_|refine aW ?_|refine aI ?_|refine aF ?_|refine au ?_|refine ak ?_|refine ae ?_|refine aB ?_|refine aA ?_|refine bn ?_)
  refine bD [0,1,5] (fun i:Nat=>i<=needs.length/\(∀j,j<i -> -2147483648<=w.getD j 0/\w.getD j 0<=2147483648)) (fun i=>⟨[(0,.sl w.length (HL.ints w)),(1,.sl needs.length (aZ needs)),(5,.int .i64 i)],[],0⟩) (fun i=>needs.length - i) 0 ⟨by omega,by omega⟩ rfl ?_
  rintro i ⟨hi,hwo⟩
  by_cases hin:i<needs.length
  ·obtain ⟨x,hx⟩:∃x,w.getD i 0=x:=⟨_,rfl⟩
   by_cases hx1:x < -2147483648
   ·repeat (first|refine ah ?_|refine bZ ?_|refine aN ?_|refine bK (by rfl) aT (by (try simp (disch:=omega) only [go_sem,hx]);try rfl) ?_|refine ag ?_|refine az ?_|refine aK ?_|refine aF ?_|refine ax ?_|refine ak ?_|refine ae ?_|refine aB ?_|refine aA ?_)
    refine ay ?_
    exact ⟨false,rfl,by simp;intro h;have:=h.ws i hin;omega⟩
   by_cases hx2:x>2147483648
   ·repeat (first|refine ah ?_|refine aG ?_|refine aN ?_|refine bK (by rfl) aT (by (try simp (disch:=omega) only [go_sem,hx]);try rfl) ?_|refine ag ?_|refine az ?_|refine aI ?_|refine aF ?_|refine ax ?_|refine ak ?_|refine ae ?_|refine aB ?_|refine aA ?_|refine bn ?_)
    refine ay ?_
    exact ⟨false,rfl,by simp;intro h;have:=h.ws i hin;omega⟩
   repeat (first|refine ah ?_|refine aG ?_|refine aN ?_|refine bK (by rfl) aT (by (try simp (disch:=omega) only [go_sem,hx]);try rfl) ?_|refine ag ?_|refine az ?_|refine aI ?_|refine di (by rfl) (by rfl) (by (try simp (disch:=omega) only [go_sem,Int.reduceAdd,Int.reduceSub,Int.reduceMul,hx]);try rfl) ?_|refine aF ?_|refine ax ?_|refine au ?_|refine ak ?_|refine ae ?_|refine aB ?_|refine dh ?_|refine aA ?_|refine bn ?_)
   refine bJ [0,1,5] (i+1) ⟨hin,fun j hj=>?_⟩ (by omega) rfl
   by_cases e:j=i
   ·subst e;omega
   ·exact hwo j (by omega)
  ·obtain rfl:i=needs.length:=by omega
   have hrb:=EJ needs.length
   have hrl:(List.replicate needs.length false).length=needs.length:=by simp
   repeat (first|refine ah ?_|refine ag ?_|refine az ?_|refine aF ?_|refine aO ?_|refine au ?_|refine ak ?_|refine ae ?_|refine ku gU (by rfl) (by omega) bW bW ?_)
   refine bf aJ (by simp (disch:=omega) only [dL,Gs,hrl,fC,HV.thaw,dC,aX,bg,if_true,if_false,reduceIte,Nat.reduceEqDiff,stripL,HV.strip,fF,dJ,eG,Nat.mul_one,List.cons_append,List.nil_append,List.append_nil,I,Bl,T3,Es,List.getD_cons_zero,List.getD_cons_succ,HL.ints_strip,HL.bools_strip,eu,dS];try rfl) (CZ needs (List.replicate needs.length false) h1 (by simp;omega) h3) ?_
   rintro _ ⟨b,rfl,hbv⟩
   refine ⟨dE,_,_,_,_,_,dw,(by decide),aQ,?_⟩
   repeat (first|refine ah ?_|refine ag ?_)
   refine ay ?_
   exact ⟨b,rfl,by rw [hbv,VW.vg];exact ⟨fun h=>⟨hb,hwo,h⟩,fun h=>h.2.2⟩⟩
 ·repeat (first|refine ah ?_|refine bZ ?_|refine ag ?_|refine aW ?_|refine aK ?_|refine aF ?_|refine ax ?_|refine ak ?_|refine ae ?_)
  refine ay ?_
  exact ⟨false,rfl,by simp;intro h;exact hb h.len⟩
end Go.Proofs.Yteamkjblpglliaa
