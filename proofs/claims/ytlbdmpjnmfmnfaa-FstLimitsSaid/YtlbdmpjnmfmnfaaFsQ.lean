import Derived.Test.YtlbdmpjnmfmnfaaFsL
import Derived.Test.YtlbdmpjnmfmnfaaFw4
set_option linter.unusedSimpArgs false
set_option linter.unusedVariables false
namespace Go.Proofs.Ytlbdmpjnmfmnfaa
open Go.RowKit Go.HL Go.FS
theorem L9 {α:Type} {l m:List α} (h:l.length≠m.length):l≠m:=fun e=>h (by rw [e])
theorem xR {α:Type} {l m:List α} {n:Nat} (hl:l.length=n) (hm:m.length=n) (h:l.take n=m.take n):l=m:=by
 rw [List.take_of_length_le (Nat.le_of_eq hl),List.take_of_length_le (Nat.le_of_eq hm)] at h;exact h
theorem CO (u v:List Int) (hu:u.length<=1000000000) (hv:v.length<=1000000000):HT Try.prog 62 [.sl u.length (HL.ints u),.sl v.length (HL.ints v)] (fun r=>r=.bool (decide (u=v))):=by
 refine HT.of rfl ZN (Nat.le_of_ble_eq_true rfl) ?_
 unfold c62
 simp only [aY,Nat.reduceAdd]
 by_cases hl:u.length=v.length
 ·repeat (first|refine ah ?_|refine af ?_|refine lh (by rfl) (by rfl) lF ?_|refine dm (by rfl) ?_|refine au ?_|refine ak ?_|refine ae ?_|refine aK ?_|refine aI ?_)
  refine dn [0,1,5] (fun k:Nat=>k<=u.length/\u.take k=v.take k)
   (fun k=>⟨[(0,.sl u.length (HL.ints u)),(1,.sl v.length (HL.ints v)),(5,.int .i64 k)],[],0⟩)
   (fun k=>u.length - k) 0 ⟨by omega,by simp⟩ rfl ?_
  rintro k ⟨hk,ht⟩
  by_cases hkl:k<u.length
  ·have h1:=dC hkl
   have h2:=dC (l:=v) (k:=k) (by omega)
   by_cases he:u.getD k 0=v.getD k 0
   ·repeat (first|refine ah ?_|refine af ?_|refine aF ?_|refine dm (by rfl) ?_|refine ax ?_|refine ak ?_|refine ae ?_|refine aK ?_|refine aI ?_)
    refine gJ bC bC (fun _ _ _=>False) ?_
    repeat (first|refine ah ?_|refine bu ?_|refine dP ?_|refine af ?_|refine lh (by rfl) (by rfl) lF ?_|refine bM ?_|refine au ?_|refine ae ?_|refine gV ?_|refine aI ?_)
    exact dS [0,1,5] (k+1) ⟨hkl,by rw [h1,h2,ht];exact congrArg (fun x=>v.take k++[x]) he⟩ (by omega) rfl
   ·repeat (first|refine ah ?_|refine af ?_|refine aF ?_|refine dm (by rfl) ?_|refine ax ?_|refine ak ?_|refine ae ?_|refine aK ?_|refine aI ?_)
    refine gJ bC bC (fun _ _ _=>False) ?_
    repeat (first|refine ah ?_|refine bu ?_|refine dP ?_|refine af ?_|refine lh (by rfl) (by rfl) lF ?_|refine ax ?_|refine ak ?_|refine ae ?_)
    refine ay ?_
    have:u≠v:=fun e=>he (by rw [e])
    simp [dE,this]
  ·obtain rfl:k=u.length:=by omega
   have:=xR rfl hl.symm ht
   repeat (first|refine ah ?_|refine af ?_|refine aF ?_|refine dm (by rfl) ?_|refine bZ (by rfl) ?_|refine au ?_|refine ak ?_|refine ae ?_)
   refine ay ?_
   simp [dE,this]
 ·repeat (first|refine ah ?_|refine af ?_|refine lh (by rfl) (by rfl) lF ?_|refine dm (by rfl) ?_|refine ax ?_|refine ak ?_|refine ae ?_)
  refine ay ?_
  have:=L9 hl
  simp [dE,this]
def gr (l:List (List Int)):List HV:=l.map fun u=>.sl u.length (HL.ints u)
theorem Ro (l:List (List Int)):(gr l).length=l.length:=by simp [gr]
theorem Rw (l:List (List Int)) {k:Nat} (h:k<l.length):(gr l).getD k .dead=.sl (l.getD k []).length (HL.ints (l.getD k [])):=by simp [gr,h]
attribute [go_sem] Ro Rw
theorem Vy (l:List (List Int)):(wds l).map ZF=gr l:=by
 unfold wds gr
 rw [List.map_map]
 refine List.map_congr_left fun u _=>?_
 by_cases h:u=[]
 ·subst h;rfl
 ·simp only [Function.comp,wR,if_neg h];rfl
set_option maxHeartbeats 4000000 in
theorem Hl (l m:List (List Int)) (hl:l.length<=1000000000) (hm:m.length<=1000000000) (hu:∀u∈l,u.length<=1000000000) (hv:∀u∈m,u.length<=1000000000):HT Try.prog 19 [.sl l.length (gr l),.sl m.length (gr m)] (fun r=>r=.bool (decide (l=m))):=by
 refine HT.of rfl aas (Nat.le_of_ble_eq_true rfl) ?_
 unfold c19
 simp only [aY,Nat.reduceAdd]
 by_cases hlm:l.length=m.length
 ·repeat (first|refine ah ?_|refine af ?_|refine lh (by rfl) (by rfl) lF ?_|refine dm (by rfl) ?_|refine au ?_|refine ak ?_|refine ae ?_|refine aK ?_|refine aI ?_)
  refine dn [0,1,5] (fun k:Nat=>k<=l.length/\l.take k=m.take k)
   (fun k=>⟨[(0,.sl l.length (gr l)),(1,.sl m.length (gr m)),(5,.int .i64 k)],[],0⟩)
   (fun k=>l.length - k) 0 ⟨by omega,by simp⟩ rfl ?_
  rintro k ⟨hk,ht⟩
  by_cases hkl:k<l.length
  ·have h1:=dC hkl
   have h2:=dC (l:=m) (k:=k) (by omega)
   have hs:=CO (l.getD k []) (m.getD k []) (hu _ (by rw [List.getD_eq_getElem?_getD,List.getElem?_eq_getElem hkl];exact List.getElem_mem _)) (hv _ (by rw [List.getD_eq_getElem?_getD,List.getElem?_eq_getElem (show k<m.length by omega)];exact List.getElem_mem _))
   by_cases he:l.getD k []=m.getD k []
   ·rw [decide_eq_true he] at hs
    repeat (first|refine ah ?_|refine af ?_|refine aF ?_|refine dm (by rfl) ?_|refine ax ?_|refine ak ?_|refine ae ?_|refine aK ?_|refine aI ?_)
    refine gJ bC bC (fun _ _ r=>r=.bool true) ?_
    repeat (first|refine ah ?_|refine bu ?_|refine dP ?_)
    refine jb bH dw hs ⟨_,rfl,rfl⟩ ?_
    rintro _ rfl -
    refine ⟨bJ,_,_,_,_,_,gY,(by decide),bF,?_⟩
    repeat (first|refine ah ?_|refine af ?_|refine bM ?_|refine au ?_|refine ae ?_|refine gV ?_|refine aI ?_|refine iU (by rfl) ?_)
    exact dS [0,1,5] (k+1) ⟨hkl,by rw [h1,h2,ht];exact congrArg (fun x=>m.take k++[x]) he⟩ (by omega) rfl
   ·rw [decide_eq_false he] at hs
    repeat (first|refine ah ?_|refine af ?_|refine aF ?_|refine dm (by rfl) ?_|refine ax ?_|refine ak ?_|refine ae ?_|refine aK ?_|refine aI ?_)
    refine gJ bC bC (fun _ _ r=>r=.bool false) ?_
    repeat (first|refine ah ?_|refine bu ?_|refine dP ?_)
    refine jb bH dw hs ⟨_,rfl,rfl⟩ ?_
    rintro _ rfl -
    refine ⟨bJ,_,_,_,_,_,gY,(by decide),bF,?_⟩
    repeat (first|refine ah ?_|refine af ?_|refine ax ?_|refine ak ?_|refine ae ?_|refine jC (by rfl) ?_)
    refine ay ?_
    have:l≠m:=fun e=>he (by rw [e])
    simp [dE,this]
  ·obtain rfl:k=l.length:=by omega
   have:=xR rfl hlm.symm ht
   repeat (first|refine ah ?_|refine af ?_|refine aF ?_|refine dm (by rfl) ?_|refine bZ (by rfl) ?_|refine au ?_|refine ak ?_|refine ae ?_)
   refine ay ?_
   simp [dE,this]
 ·repeat (first|refine ah ?_|refine af ?_|refine lh (by rfl) (by rfl) lF ?_|refine dm (by rfl) ?_|refine ax ?_|refine ak ?_|refine ae ?_)
  refine ay ?_
  have:=L9 hlm
  simp [dE,this]
theorem uw (l m:List (List Int)) (hl:l.length<=1000000000) (hm:m.length<=1000000000) (hu:∀u∈l,u.length<=1000000000) (hv:∀u∈m,u.length<=1000000000):HT Try.prog 19 [.sl l.length (wds l),.sl m.length (wds m)] (fun r=>r=.bool (decide (l=m))) :=
 HT.arg (fun F h rvs o=>by
  have:=Ob o
  simpa only [List.map_cons,List.map_nil,ZP,Vy] using this) (Hl l m hl hm hu hv)
theorem Ju {fin:List Bool} {al:List A} {w:List Int} {G:List Nd} {most:Int} (hk:vU al) (hG:∀x,x∈G <-> FS.Good fin al w x) {l:List (List Int)} (h:Lst fin al w most l):∀u∈l,u.length<=G.length:=by
 intro u hu
 have ho:=(h.mem hk).1 hu
 have hm:=(kU (n:=u.length) hk).2 ⟨ho.beg,rfl⟩
 rcases Nat.lt_or_ge G.length u.length with h2|h2
 ·exact absurd h (Gw hk (fun x hx=>(hG x).2 hx) h2 (fun e=>by rw [e] at hm;cases hm))
 ·exact h2
end Go.Proofs.Ytlbdmpjnmfmnfaa
