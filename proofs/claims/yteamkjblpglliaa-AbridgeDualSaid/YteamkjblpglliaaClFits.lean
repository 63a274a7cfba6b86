import Derived.Test.YteamkjblpglliaaGrPlain
section
set_option linter.unusedSimpArgs false
set_option linter.unusedVariables false
namespace Go.Proofs.Yteamkjblpglliaa
open Go.RowKit Go.SL Go.HL
def aZ (l:List (List Int)):List HV:=l.map fun r=>.sl r.length (HL.ints r)
def Gs (l:List (List Int)):HV:=.sl l.length (aZ l)
theorem IV (l:List (List Int)):(aZ l).length=l.length:=by simp [aZ]
theorem Jg (l:List (List Int)) {i:Nat} (h:i<l.length):(aZ l).getD i .dead=.sl (l.getD i []).length (HL.ints (l.getD i [])):=by simp [aZ,h]
theorem fC (l:List (List Int)):stripL (aZ l)=aZ l:=by
 induction l with
 | nil=>rfl
 | cons a l ih=>unfold aZ at ih ⊢;simp only [List.map_cons,stripL,HV.strip,HL.ints_strip,ih]
attribute [go_sem] Jg IV
def nl (l:List Nat):List Int:=l.map fun x:Nat=>(x:Int)
theorem gW {α:Type} {l:List α} {k:Nat} {d:α} (h:k<l.length):l.getD k d=l[k]:=by simp [h]
theorem fH (l:List Nat):(nl l).length=l.length:=by simp [nl]
theorem Kq (l:List Nat) (i:Nat):(nl l).getD i 0=((l.getD i 0:Nat):Int):=by
 unfold nl
 by_cases h:i<l.length
 ·simp [h]
 ·simp [List.getElem?_eq_none (Nat.le_of_not_lt h)]
theorem OE (l:List Nat) (i:Nat):nl l++[(i:Int)]=nl (l++[i]):=by simp [nl]
attribute [go_sem] fH Kq OE
theorem dM (nd:List (List Nat)) (i:Nat):(nd.map nl).getD i []=nl (nd.getD i []):=by
 by_cases h:i<nd.length
 ·simp [h]
 ·simp [List.getElem?_eq_none (Nat.le_of_not_lt h),nl]
def Ue (needs:List (List Int)) (i k:Nat):Prop:=0<=(needs.getD i []).getD k 0/\(needs.getD i []).getD k 0<needs.length/\(0<k->(needs.getD i []).getD (k - 1) 0<(needs.getD i []).getD k 0)
structure VG (needs:List (List Int)) (bad:List Bool):Prop where
 size:needs.length<=256
 bads:bad.length=needs.length
 ok:∀i,i<needs.length->∀k,k<(needs.getD i []).length->Ue needs i k
theorem Gr.vg {nd:List (List Nat)} {bad:List Bool} (g:Gr nd bad):VG (nd.map nl) bad:=by
 refine ⟨by simpa using g.size,by simpa using g.bads,fun i hi k hk=>?_⟩
 simp only [List.length_map] at hi
 rw [dM,fH] at hk
 simp only [Ue,dM,Kq,List.length_map]
 have h1:=g.lt i _ (getD_mem (nd.getD i []) k 0 hk)
 refine ⟨by omega,by omega,fun h0=>?_⟩
 have:=List.pairwise_iff_getElem.1 (g.sorted i) (k - 1) k (by omega) hk (by omega)
 have ea:(nd.getD i []).getD (k - 1) 0=(nd.getD i [])[k - 1]:=gW (by omega)
 have eb:(nd.getD i []).getD k 0=(nd.getD i [])[k]:=gW hk
 rw [ea,eb];omega
end Go.Proofs.Yteamkjblpglliaa
end
section
set_option linter.unusedSimpArgs false
set_option linter.unusedVariables false
namespace Go.Proofs.Yteamkjblpglliaa
open Go.RowKit Go.SL Go.HL
set_option maxHeartbeats 4000000 in
theorem CZ (needs:List (List Int)) (bad:List Bool) (h1:needs.length<=9223372036854775807) (h2:bad.length<=9223372036854775807) (h3:∀i,(needs.getD i []).length<=9223372036854775807):HT Try.prog 74 [Gs needs,Bl bad] (fun r=>∃b,r=.bool b/\(b=true <-> VG needs bad)):=by
 refine HT.of rfl aeO (Nat.le_of_ble_eq_true rfl) ?_
 unfold c74
 simp only [Gs,Bl,aP,Nat.reduceAdd]
 by_cases hs:needs.length>256
 ·repeat (first|refine ah ?_|refine bZ ?_|refine ag ?_|refine aK ?_|refine aF ?_|refine ax ?_|refine ak ?_|refine ae ?_|refine bn ?_)
  refine ay ?_
  exact ⟨false,rfl,by simp;intro h;have:=h.size;omega⟩
 by_cases hb:bad.length=needs.length
 ·repeat (first|refine ah ?_|refine aG ?_|refine ag ?_|refine aW ?_|refine aI ?_|refine aF ?_|refine au ?_|refine ak ?_|refine ae ?_|refine aB ?_|refine aA ?_|refine bn ?_)
  refine bD [0,1,5] (fun i:Nat=>i<=needs.length/\∀j,j<i->∀k,k<(needs.getD j []).length->Ue needs j k) (fun i=>⟨[(0,.sl needs.length (aZ needs)),(1,.sl bad.length (HL.bools bad)),(5,.int .i64 i)],[],0⟩) (fun i=>needs.length - i) 0 ⟨by omega,by omega⟩ rfl ?_
  rintro i ⟨hi,ho⟩
  by_cases hin:i<needs.length
  ·have hlen:=h3 i
   repeat (first|refine ah ?_|refine ag ?_|refine az ?_|refine aF ?_|refine ax ?_|refine ak ?_|refine ae ?_|refine aB ?_|refine aA ?_)
   refine bD [0,1,5,6] (fun k:Nat=>k<=(needs.getD i []).length/\∀q,q<k->Ue needs i q) (fun k=>⟨[(0,.sl needs.length (aZ needs)),(1,.sl bad.length (HL.bools bad)),(5,.int .i64 i),(6,.int .i64 k)],[],0⟩) (fun k=>(needs.getD i []).length - k) 0 ⟨by omega,by omega⟩ rfl ?_
   rintro k ⟨hk,hq⟩
   by_cases hkl:k<(needs.getD i []).length
   ·have hk1:((k:Int) - 1).toNat=k - 1:=by omega
    by_cases c1:(needs.getD i []).getD k 0<0
    ·by_cases hk0:0<k <;>
     ·repeat (first|refine ah ?_|refine bZ ?_|refine aN ?_|refine bK (by rfl) aT (by (try simp (disch:=omega) only [go_sem,hk1]);try rfl) ?_|refine ag ?_|refine az ?_|refine aK ?_|refine aF ?_|refine ax ?_|refine ak ?_|refine ae ?_|refine aB ?_|refine aA ?_|refine tu (by rfl) (by rfl) ?_)
      refine ay ?_
      exact ⟨false,rfl,by simp;intro h;have:=(h.ok i hin k hkl).1;omega⟩
    by_cases c2:(needs.getD i []).getD k 0 ≥ needs.length
    ·by_cases hk0:0<k <;>
     ·repeat (first|refine ah ?_|refine aG ?_|refine bZ ?_|refine aN ?_|refine bK (by rfl) aT (by (try simp (disch:=omega) only [go_sem,hk1]);try rfl) ?_|refine ag ?_|refine az ?_|refine aK ?_|refine aI ?_|refine aF ?_|refine ax ?_|refine ak ?_|refine ae ?_|refine aB ?_|refine aA ?_|refine tu (by rfl) (by rfl) ?_|refine dG ?_)
      refine ay ?_
      exact ⟨false,rfl,by simp;intro h;have:=(h.ok i hin k hkl).2.1;omega⟩
    by_cases hk0:0<k
    ·by_cases c3:(needs.getD i []).getD k 0<=(needs.getD i []).getD (k - 1) 0
     ·repeat (first|refine ah ?_|refine aG ?_|refine aN ?_|refine bK (by rfl) aT (by (try simp (disch:=omega) only [go_sem,hk1]);try rfl) ?_|refine ag ?_|refine az ?_|refine aK ?_|refine aI ?_|refine aF ?_|refine ax ?_|refine ak ?_|refine ae ?_|refine aB ?_|refine aA ?_|refine ik (by rfl) (by rfl) (by (try simp (disch:=omega) only [go_sem,Int.reduceAdd,Int.reduceSub,Int.reduceMul,hk1]);try rfl) ?_|refine dU ?_|refine bn ?_|refine dG ?_)
      refine ay ?_
      exact ⟨false,rfl,by simp;intro h;have:=(h.ok i hin k hkl).2.2 hk0;omega⟩
     ·repeat (first|refine ah ?_|refine aG ?_|refine aN ?_|refine bK (by rfl) aT (by (try simp (disch:=omega) only [go_sem,hk1]);try rfl) ?_|refine ag ?_|refine az ?_|refine aK ?_|refine aI ?_|refine di (by rfl) (by rfl) (by (try simp (disch:=omega) only [go_sem,Int.reduceAdd,Int.reduceSub,Int.reduceMul,hk1]);try rfl) ?_|refine aF ?_|refine ax ?_|refine au ?_|refine ak ?_|refine ae ?_|refine aB ?_|refine dh ?_|refine aA ?_|refine ik (by rfl) (by rfl) (by (try simp (disch:=omega) only [go_sem,Int.reduceAdd,Int.reduceSub,Int.reduceMul,hk1]);try rfl) ?_|refine dU ?_|refine bn ?_|refine dG ?_)
      refine bJ [0,1,5,6] (k+1) ⟨hkl,fun q hq'=>?_⟩ (by omega) rfl
      by_cases e:q=k
      ·subst e;exact ⟨by omega,by omega,fun _=>by omega⟩
      ·exact hq q (by omega)
    ·repeat (first|refine ah ?_|refine aG ?_|refine bZ ?_|refine aN ?_|refine bK (by rfl) aT (by (try simp (disch:=omega) only [go_sem,hk1]);try rfl) ?_|refine ag ?_|refine az ?_|refine aI ?_|refine di (by rfl) (by rfl) (by (try simp (disch:=omega) only [go_sem,Int.reduceAdd,Int.reduceSub,Int.reduceMul,hk1]);try rfl) ?_|refine aF ?_|refine ax ?_|refine au ?_|refine ak ?_|refine ae ?_|refine aB ?_|refine dh ?_|refine aA ?_|refine bn ?_|refine dG ?_)
     refine bJ [0,1,5,6] (k+1) ⟨hkl,fun q hq'=>?_⟩ (by omega) rfl
     by_cases e:q=k
     ·subst e;exact ⟨by omega,by omega,fun _=>by omega⟩
     ·exact hq q (by omega)
   ·repeat (first|refine ah ?_|refine aN ?_|refine bK (by rfl) aT mg ?_|refine ag ?_|refine az ?_|refine bz ?_|refine aF ?_|refine aO ?_|refine au ?_|refine ak ?_|refine ae ?_|refine dh ?_)
    refine bJ [0,1,5] (i+1) ⟨hin,fun j hj q hq'=>?_⟩ (by omega) rfl
    by_cases e:j=i
    ·subst e;exact hq q (by omega)
    ·exact ho j (by omega) q hq'
  ·repeat (first|refine ah ?_|refine ag ?_|refine az ?_|refine aF ?_|refine aO ?_|refine au ?_|refine ak ?_|refine ae ?_)
   refine ay ?_
   exact ⟨true,rfl,by simp;exact ⟨by omega,hb,fun j hj=>ho j (by omega)⟩⟩
 ·repeat (first|refine ah ?_|refine aG ?_|refine ag ?_|refine aW ?_|refine aI ?_|refine aF ?_|refine ax ?_|refine ak ?_|refine ae ?_|refine bn ?_)
  refine ay ?_
  exact ⟨false,rfl,by simp;intro h;exact hb h.bads⟩
end Go.Proofs.Yteamkjblpglliaa
end
section
set_option linter.unusedSimpArgs false
set_option linter.unusedVariables false
namespace Go.Proofs.Yteamkjblpglliaa
open Go.RowKit Go.SL Go.HL
theorem any_take_succ {α:Type} (l:List α) (p:α->Bool) (d:α) {i:Nat} (hi:i<l.length):(l.take (i+1)).any p=((l.take i).any p || p (l.getD i d)):=by
 rw [List.take_succ_eq_append_getElem hi,List.any_append]
 simp [List.getD_eq_getElem?_getD,hi]
theorem jO {α:Type} (l:List α) (p:α->Bool) {i:Nat} (h:(l.take i).any p=true):l.any p=true:=by
 rw [List.any_eq_true] at h ⊢
 obtain ⟨x,hx,h2⟩:=h
 exact ⟨x,List.mem_of_mem_take hx,h2⟩
theorem lX {α:Type} (l:List α) (d:α) {i:Nat} (hi:i<l.length):l.getD i d∈l:=by
 rw [List.getD_eq_getElem?_getD,List.getElem?_eq_getElem hi,Option.getD_some];exact List.getElem_mem hi
set_option maxHeartbeats 4000000 in
theorem Qk (l:List Int) (n:Nat) (set:List Bool) (f:FuncId) (p:Int->Bool) (hl:l.length<=9223372036854775807) (hp:∀x∈l,HT Try.prog f [.int .i64 x,.ptr [.sl n (HL.bools set)] 0] (fun r=>r=.bool (p x))) :
  HT Try.prog 70 [I l,.fn f [.ptr [.sl n (HL.bools set)] 0]] (fun r=>∃e:Int,r=.int .i64 e /\ -1<=e/\(0<=e <-> l.any p=true)):=by
 refine HT.of rfl aa3 (Nat.le_of_ble_eq_true rfl) ?_
 unfold c70
 simp only [I,aP,Nat.reduceAdd]
 repeat (first|refine ah ?_|refine ag ?_|refine aF ?_|refine ak ?_|refine ae ?_|refine aB ?_)
 refine bD [0,1,7,8] (fun i:Nat=>i<=l.length/\(l.take i).any p=false) (fun i=>⟨[(0,.sl l.length (HL.ints l)),(1,.fn f [.ptr [.sl n (HL.bools set)] 0]),(7,.int .i64 l.length),(8,.int .i64 i)],[],0⟩) (fun i=>l.length - i) 0 ⟨by omega,rfl⟩ rfl ?_
 rintro i ⟨hi,hno⟩
 by_cases hil:i<l.length
 ·obtain ⟨x,hx⟩:∃x,l.getD i 0=x:=⟨_,rfl⟩
  have hst:=any_take_succ l p 0 hil
  rw [hx,hno,Bool.false_or] at hst
  repeat (first|refine ah ?_|refine aN ?_|refine bK (by rfl) aT (by (try simp (disch:=omega) only [go_sem,hx]);try rfl) ?_|refine ag ?_|refine az ?_|refine ax ?_|refine ak ?_|refine ae ?_|refine aB ?_|refine aA ?_)
  refine BI (by rfl) aJ dI (hp x (hx▸lX l 0 hil)) ?_
  rintro _ rfl
  refine ⟨dE,_,_,_,_,_,dw,(by decide),aQ,?_⟩
  cases hpx:p x with
  | true =>
   repeat (first|refine ah ?_|refine ag ?_|refine ax ?_|refine ak ?_|refine ae ?_)
   refine ay ?_
   exact ⟨i,rfl,by omega,by rw [jO l p (hst.trans hpx)];simp⟩
  | false =>
   repeat (first|refine ah ?_|refine ag ?_|refine bz ?_|refine au ?_|refine ae ?_|refine dh ?_|refine aA ?_)
   exact bJ [0,1,7,8] (i+1) ⟨hil,hst.trans hpx⟩ (by omega) rfl
 ·obtain rfl:i=l.length:=by omega
  rw [List.take_length] at hno
  repeat (first|refine ah ?_|refine ag ?_|refine az ?_|refine aO ?_|refine au ?_|refine ak ?_|refine ae ?_)
  refine ay ?_
  exact ⟨-1,rfl,by omega,by rw [hno];simp⟩
theorem LG (l:List Int) (n:Nat) (set:List Bool) (f:FuncId) (p:Int->Bool) (hl:l.length<=9223372036854775807) (hp:∀x∈l,HT Try.prog f [.int .i64 x,.ptr [.sl n (HL.bools set)] 0] (fun r=>r=.bool (p x))) :
  HT Try.prog 52 [I l,.fn f [.ptr [.sl n (HL.bools set)] 0]] (fun r=>r=.bool (l.any p)):=by
 refine HT.of rfl adh (Nat.le_of_ble_eq_true rfl) ?_
 unfold c52
 simp only [I,aP,Nat.reduceAdd]
 repeat (first|refine ah ?_|refine ag ?_|refine ak ?_|refine ae ?_)
 refine bf aJ dI (Qk l n set f p hl hp) ?_
 rintro _ ⟨e,rfl,he,h⟩
 refine ⟨dE,_,_,_,_,_,dw,(by decide),aQ,?_⟩
 by_cases h0:0<=e
 ·repeat (first|refine ah ?_|refine ag ?_|refine dG ?_)
  refine ay ?_
  rw [h.1 h0];rfl
 ·have h1:l.any p=false:=by
   cases hb:l.any p with
   | false=>rfl
   | true=>exact absurd (h.2 hb) h0
  repeat (first|refine ah ?_|refine ag ?_|refine dG ?_)
  refine ay ?_
  rw [h1];rfl
set_option maxHeartbeats 4000000 in
theorem OJ (g:List (List Int)) (n:Nat) (set:List Bool) (f:FuncId) (p:List Int->Bool) (hl:g.length<=9223372036854775807) (hp:∀x∈g,HT Try.prog f [I x,.ptr [.sl n (HL.bools set)] 0] (fun r=>r=.bool (p x))) :
  HT Try.prog 77 [Gs g,.fn f [.ptr [.sl n (HL.bools set)] 0]] (fun r=>∃e:Int,r=.int .i64 e /\ -1<=e/\(0<=e <-> g.any p=true)):=by
 refine HT.of rfl aeT (Nat.le_of_ble_eq_true rfl) ?_
 unfold c77
 simp only [Gs,aP,Nat.reduceAdd]
 repeat (first|refine ah ?_|refine ag ?_|refine aF ?_|refine ak ?_|refine ae ?_|refine aB ?_)
 refine bD [0,1,7,8] (fun i:Nat=>i<=g.length/\(g.take i).any p=false) (fun i=>⟨[(0,.sl g.length (aZ g)),(1,.fn f [.ptr [.sl n (HL.bools set)] 0]),(7,.int .i64 g.length),(8,.int .i64 i)],[],0⟩) (fun i=>g.length - i) 0 ⟨by omega,rfl⟩ rfl ?_
 rintro i ⟨hi,hno⟩
 by_cases hil:i<g.length
 ·obtain ⟨x,hx⟩:∃x,g.getD i []=x:=⟨_,rfl⟩
  have hst:=any_take_succ g p [] hil
  rw [hx,hno,Bool.false_or] at hst
  have hpx:=hp x (hx▸lX g [] hil)
  simp only [I] at hpx
  repeat (first|refine ah ?_|refine aN ?_|refine bK (by rfl) aT (by (try simp (disch:=omega) only [go_sem,hx]);try rfl) ?_|refine ag ?_|refine az ?_|refine ax ?_|refine ak ?_|refine ae ?_|refine aB ?_|refine aA ?_)
  refine BI (by rfl) aJ dI (hpx) ?_
  rintro _ rfl
  refine ⟨dE,_,_,_,_,_,dw,(by decide),aQ,?_⟩
  cases hpx:p x with
  | true =>
   repeat (first|refine ah ?_|refine ag ?_|refine ax ?_|refine ak ?_|refine ae ?_)
   refine ay ?_
   exact ⟨i,rfl,by omega,by rw [jO g p (hst.trans hpx)];simp⟩
  | false =>
   repeat (first|refine ah ?_|refine ag ?_|refine bz ?_|refine au ?_|refine ae ?_|refine dh ?_|refine aA ?_)
   exact bJ [0,1,7,8] (i+1) ⟨hil,hst.trans hpx⟩ (by omega) rfl
 ·obtain rfl:i=g.length:=by omega
  rw [List.take_length] at hno
  repeat (first|refine ah ?_|refine ag ?_|refine az ?_|refine aO ?_|refine au ?_|refine ak ?_|refine ae ?_)
  refine ay ?_
  exact ⟨-1,rfl,by omega,by rw [hno];simp⟩
theorem N7 (g:List (List Int)) (n:Nat) (set:List Bool) (f:FuncId) (p:List Int->Bool) (hl:g.length<=9223372036854775807) (hp:∀x∈g,HT Try.prog f [I x,.ptr [.sl n (HL.bools set)] 0] (fun r=>r=.bool (p x))) :
  HT Try.prog 67 [Gs g,.fn f [.ptr [.sl n (HL.bools set)] 0]] (fun r=>r=.bool (g.any p)):=by
 refine HT.of rfl afi (Nat.le_of_ble_eq_true rfl) ?_
 unfold c67
 simp only [Gs,aP,Nat.reduceAdd]
 repeat (first|refine ah ?_|refine ag ?_|refine ak ?_|refine ae ?_)
 refine bf aJ (by simp (disch:=omega) only [dL,Gs,HV.thaw,dC,aX,bg,if_true,if_false,reduceIte,Nat.reduceEqDiff,stripL,HV.strip,fF,dJ,eG,Nat.mul_one,List.cons_append,List.nil_append,List.append_nil,I,Bl,T3,Es,List.getD_cons_zero,List.getD_cons_succ,HL.ints_strip,HL.bools_strip,eu,dS];try rfl) (OJ g n set f p hl hp) ?_
 rintro _ ⟨e,rfl,he,h⟩
 refine ⟨dE,_,_,_,_,_,dw,(by decide),aQ,?_⟩
 by_cases h0:0<=e
 ·repeat (first|refine ah ?_|refine ag ?_|refine dG ?_)
  refine ay ?_
  rw [h.1 h0];rfl
 ·have h1:g.any p=false:=by
   cases hb:g.any p with
   | false=>rfl
   | true=>exact absurd (h.2 hb) h0
  repeat (first|refine ah ?_|refine ag ?_|refine dG ?_)
  refine ay ?_
  rw [h1];rfl
def o6 (n:Nat) (x:Int):Bool:=decide (x<0) || decide ((n:Int)<=x)
def kw (g:List (List Int)) (set:List Bool):Bool:=decide (g.length=set.length)&&!(g.any fun r=>r.any (o6 set.length))
theorem Iw (x:Int) (n:Nat) (set:List Bool):HT Try.prog 69 [.int .i64 x,.ptr [.sl n (HL.bools set)] 0] (fun r=>r=.bool (o6 n x)):=by
 refine HT.of rfl ae1 (Nat.le_of_ble_eq_true rfl) ?_
 unfold c69
 simp only [aP,Nat.reduceAdd]
 unfold o6
 by_cases h0:x<0
 ·repeat (first|refine ah ?_|refine bZ ?_|refine ag ?_|refine az ?_|refine aK ?_|refine ak ?_|refine ae ?_)
  refine ay ?_
  simp [dP,h0]
 ·by_cases h1:(n:Int)<=x
  ·repeat (first|refine ah ?_|refine aG ?_|refine bK (by rfl) aT mg ?_|refine ag ?_|refine az ?_|refine aI ?_|refine aF ?_|refine ak ?_|refine ae ?_|refine dG ?_)
   refine ay ?_
   simp [dP,h1]
  ·repeat (first|refine ah ?_|refine aG ?_|refine bK (by rfl) aT mg ?_|refine ag ?_|refine az ?_|refine aI ?_|refine aF ?_|refine ak ?_|refine ae ?_|refine dG ?_)
   refine ay ?_
   simp [dP,h0,h1]
theorem MF (r:List Int) (n:Nat) (set:List Bool) (hl:r.length<=9223372036854775807):HT Try.prog 68 [I r,.ptr [.sl n (HL.bools set)] 0] (fun v=>v=.bool (r.any (o6 n))):=by
 refine HT.of rfl afy (Nat.le_of_ble_eq_true rfl) ?_
 unfold c68
 simp only [I,aP,Nat.reduceAdd]
 repeat (first|refine ah ?_|refine ag ?_|refine ak ?_|refine ae ?_)
 refine Bf aJ ?_
 skip
 refine bf aJ dI (LG r n set _ (o6 n) hl fun x _=>Iw x n set) ?_
 rintro _ rfl
 refine ⟨dE,_,_,_,_,_,dw,(by decide),aQ,?_⟩
 repeat (first|refine ah ?_|refine ag ?_)
 refine ay ?_
 rfl
theorem Ic (g:List (List Int)) (set:List Bool) (h1:g.length<=9223372036854775807) (h2:set.length<=9223372036854775807) (h3:∀i,(g.getD i []).length<=9223372036854775807) :
  HT Try.prog 48 [Gs g,Bl set] (fun r=>r=.bool (kw g set)):=by
 have h3':∀x∈g,x.length<=9223372036854775807:=fun x hx=>by
  obtain ⟨k,hk,rfl⟩:=List.getElem_of_mem hx
  have:=h3 k
  rwa [List.getD_eq_getElem?_getD,List.getElem?_eq_getElem hk,Option.getD_some] at this
 refine HT.of rfl aex (Nat.le_of_ble_eq_true rfl) ?_
 unfold c48
 simp only [Gs,Bl,aP,Nat.reduceAdd]
 unfold kw
 have hbs:stripL (HL.bools set)=HL.bools set:=HL.bools_strip _
 by_cases he:g.length=set.length
 ·repeat (first|refine ah ?_|refine aG ?_|refine aH ?_|refine ag ?_|refine aY ?_|refine aF ?_|refine ak ?_|refine ae ?_|refine dX ?_)
  refine Bf aJ ?_
  repeat (first|refine aG ?_)
  refine bf aJ (by simp (disch:=omega) only [dL,Gs,HV.thaw,dC,aX,bg,if_true,if_false,reduceIte,Nat.reduceEqDiff,stripL,HV.strip,fF,dJ,eG,Nat.mul_one,List.cons_append,List.nil_append,List.append_nil,I,Bl,T3,Es,List.getD_cons_zero,List.getD_cons_succ,HL.ints_strip,HL.bools_strip,eu,dS];try rfl) (N7 g set.length set _ (fun r=>r.any (o6 set.length)) h1 fun x hx=>MF x set.length set (h3' x hx)) ?_
  rintro _ rfl
  refine ⟨dE,_,_,_,_,_,dw,(by decide),aQ,?_⟩
  repeat (first|refine ah ?_|refine aG ?_|refine ag ?_|refine aK ?_|refine xG (by rfl) (by (try simp only [go_sem,reduceIte]);try rfl) ?_)
  refine ay ?_
  simp [dP,he]
 ·repeat (first|refine ah ?_|refine bZ ?_|refine aH ?_|refine ag ?_|refine aY ?_|refine aI ?_|refine aF ?_|refine ak ?_|refine ae ?_|refine dX ?_)
  refine ay ?_
  simp [dP,he]
end Go.Proofs.Yteamkjblpglliaa
end
