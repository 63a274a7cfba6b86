import Derived.Test.YtlbdmpjnmfmnfaaFsQ
import Derived.Test.YtlbdmpjnmfmnfaaFt9
import Derived.Test.YtlbdmpjnmfmnfaaFtX
import Derived.Test.YtlbdmpjnmfmnfaaFs6
import Derived.Test.YtlbdmpjnmfmnfaaFs2
section
set_option linter.unusedSimpArgs false
set_option linter.unusedVariables false
namespace Go.Proofs.Ytlbdmpjnmfmnfaa
open Go.RowKit Go.HL Go.FS
open Classical in
theorem EI {fin:List Bool} {al:List A} {w:List Int} {most:Int} {l:List (List Int)} (hv:okF fin al=true) (h:Lst fin al w most l):∀u∈l,u.length<=fin.length*(w.length+1):=by
 have hk:=uV hv
 intro u hu
 have hin:∀a∈al,0<=a.f/\a.f<fin.length:=fun a ha=>by have:=gJ hv ha;omega
 have hG:∀x,x∈(nodes fin.length w.length).filter (fun x=>decide (FS.Good fin al w x)) <-> FS.Good fin al w x:=fun x=>by
  rw [List.mem_filter]
  simp only [decide_eq_true_eq]
  exact ⟨fun h=>h.2,fun h=>⟨tu (pW hin h),h⟩⟩
 have h4:=xB hk hG h u hu
 have h5:=List.length_filter_le (fun x=>decide (FS.Good fin al w x)) (nodes fin.length w.length)
 rw [sN] at h5
 omega
theorem LX {fin:List Bool} {al:List A} {w:List Int} {most:Int} (ho:rH fin al w most):(og fin al w most).2=0\/(og fin al w most).2=4:=by
 unfold og
 rw [if_pos ho]
 by_cases he:∃l,Lst fin al w most l
 ·rw [dif_pos he];exact .inl rfl
 ·rw [dif_neg he];exact .inr rfl
theorem uN {fin:List Bool} {al:List A} {w:List Int} {most:Int} (h:(og fin al w most).2=0) {v:List Int}:v∈(og fin al w most).1 <-> Out fin al w v:=by
 obtain ⟨h1,h2⟩:=zl h
 exact h2.mem (uV h1.1)
theorem AB {fin:List Bool} {al:List A} (hv:okF fin al=true):okF fin (al.map inv)=true:=by
 obtain ⟨h1,h2,h3⟩:=jZ hv
 simp only [okF,Bool.and_eq_true,decide_eq_true_eq,List.all_eq_true]
 refine ⟨⟨h1,h2,by simpa using h3⟩,fun b hb=>?_⟩
 obtain ⟨a,ha,rfl⟩:=List.mem_map.1 hb
 have:=gJ hv ha
 exact okA_iff.2 (by simp only [inv];omega)
theorem GN {fin:List Bool} {al:List A} {x v:List Int} {m:Int} (hv:okF fin al=true) (hb:fin.length*(x.length+1)<=1024) (he:(og fin al x m).2=0) (hm:v∈(og fin al x m).1) :
  ((og fin (al.map inv) v 64).2=0/\x∈(og fin (al.map inv) v 64).1)\/(og fin (al.map inv) v 64).2=4:=by
 have ho:=(uN he).1 hm
 obtain ⟨h1,h2⟩:=zl he
 have h3:=EI hv h2 v hm
 have hok:rH fin (al.map inv) v 64:=⟨AB hv,by omega,by omega,by omega⟩
 rcases LX hok with h|h
 ·exact .inl ⟨h,(uN h).2 (out_inv.2 ho)⟩
 ·exact .inr h
theorem JY {fin:List Bool} {al:List A} {x y:List Int} {m k:Int} (h1:(og fin al x m).2=0) (h2:(og fin (al.map inv) y k).2=0):decide (y∈(og fin al x m).1)=decide (x∈(og fin (al.map inv) y k).1):=by
 rw [Bool.eq_iff_iff,decide_eq_true_iff,decide_eq_true_iff,uN h1,uN h2,out_inv]
theorem Je (l:List Int):(HL.ints l).map Q5=HL.ints l:=by
 induction l with
 | nil=>rfl
 | cons x l ih=>simp only [HL.ints,List.map_cons] at ih ⊢;rw [ih];rfl
theorem Ho {α:Type} [Inhabited α] {l:List α} {x:α} {k:Nat} (hk:k<l.length):x∈l.take (k+1) <-> x∈l.take k\/x=l.getD k default:=by
 rw [dC hk];simp
set_option maxHeartbeats 4000000 in
theorem MM (l:List (List Int)) (w:List Int) (hl:l.length<=1000000000) (hu:∀u∈l,u.length<=1000000000) (hw:w.length<=1000000000):HT Try.prog 24 [.sl l.length (gr l),.sl w.length (HL.ints w)] (fun r=>r=.bool (decide (w∈l))):=by
 refine HT.of rfl Xv (Nat.le_of_ble_eq_true rfl) ?_
 unfold c24
 simp only [aS,Nat.reduceAdd]
 repeat (first|refine ag ?_|refine af ?_|refine ah ?_|refine ae ?_|refine aH ?_)
 refine cu [0,1,5] (fun k:Nat=>k<=l.length/\w ∉ l.take k)
  (fun k=>⟨[(0,.sl l.length (gr l)),(1,.sl w.length (HL.ints w)),(5,.int .i64 k)],[],0⟩)
  (fun k=>l.length - k) 0 ⟨by omega,by simp⟩ rfl ?_
 rintro k ⟨hk,ht⟩
 by_cases hkl:k<l.length
 ·have hm:=Ho (x:=w) hkl
  have hmem:l.getD k []∈l:=by rw [List.getD_eq_getElem?_getD,List.getElem?_eq_getElem hkl];exact List.getElem_mem _
  have hs:=um (l.getD k []) w (hu _ hmem) hw
  by_cases he:l.getD k []=w
  ·rw [decide_eq_true he] at hs
   have:w∈l:=he▸hmem
   repeat (first|refine ag ?_|refine aZ ?_|refine dP ?_|refine af ?_|refine az ?_|refine bY (by rfl) ?_|refine au ?_|refine ah ?_|refine ae ?_|refine aH ?_|refine aF ?_)
   refine bI bD cO (hs) ?_
   rintro _ rfl
   refine ⟨bF,_,_,_,_,_,gq,(by decide),bC,?_⟩
   repeat (first|refine ag ?_|refine af ?_|refine au ?_|refine ah ?_|refine ae ?_)
   refine ax ?_
   simp [dA,this]
  ·rw [decide_eq_false he] at hs
   repeat (first|refine ag ?_|refine aZ ?_|refine dP ?_|refine af ?_|refine az ?_|refine bY (by rfl) ?_|refine au ?_|refine ah ?_|refine ae ?_|refine aH ?_|refine aF ?_)
   refine bI bD cO (hs) ?_
   rintro _ rfl
   refine ⟨bF,_,_,_,_,_,gq,(by decide),bC,?_⟩
   repeat (first|refine ag ?_|refine af ?_|refine bu ?_|refine ak ?_|refine ae ?_|refine fE ?_|refine aF ?_)
   exact dm [0,1,5] (k+1) ⟨hkl,fun h=>(hm.1 h).elim ht fun h=>he h.symm⟩ (by omega) rfl
 ·obtain rfl:k=l.length:=by omega
  rw [List.take_length] at ht
  repeat (first|refine ag ?_|refine af ?_|refine az ?_|refine bY (by rfl) ?_|refine bK (by rfl) ?_|refine ak ?_|refine ah ?_|refine ae ?_)
  refine ax ?_
  simp [dA,ht]
theorem DR (l:List (List Int)) (w:List Int) (hl:l.length<=1000000000) (hu:∀u∈l,u.length<=1000000000) (hw:w.length<=1000000000):HT Try.prog 24 [.sl l.length (wds l),.sl w.length (HL.ints w)] (fun r=>r=.bool (decide (w∈l))) :=
 HT.arg (fun F h rvs o=>by
  have:=Eb o
  simpa only [List.map_cons,List.map_nil,WH,NH,Je] using this) (MM l w hl hu hw)
theorem Xn (u:List Int):wR u=wE (if u=[] then none else some u):=by
 unfold wR;split<;>rfl
theorem Jq (u:List Int):(if u=[] then (none:Option (List Int)) else some u).getD []=u:=by
 split
 ·rename_i h;rw [h];rfl
 ·rfl
theorem GZ (fin:List Bool) (al:List A) (u:List Int) (most:Int) (hf:fin.length<=9223372036854775807) (ha:al.length<=9223372036854775807) (hwl:u.length<=9223372036854775807):HT Try.prog 17 [.agg (gQ fin al),wR u,.int .i64 most] (fun r=>r=UK fin al u most):=by
 have:=Hz fin al (if u=[] then none else some u) most hf ha (by rw [Jq];exact hwl)
 rw [Jq,<- Xn] at this
 exact this
theorem Jr (l:List (List Int)) {k:Nat} (h:k<l.length):(wds l).getD k .dead=wR (l.getD k []):=by simp [wds,h]
attribute [go_sem] Jr
end Go.Proofs.Ytlbdmpjnmfmnfaa
end
section
set_option linter.unusedSimpArgs false
set_option linter.unusedVariables false
namespace Go.Proofs.Ytlbdmpjnmfmnfaa
open Go.RowKit Go.HL Go.FS
theorem Au (l:List Int) (m:Nat) (hl:l.length<=9223372036854775807) (hm:m<=1000) (hr:∀k,k<l.length -> -9223372036854775808<=l.getD k 0/\l.getD k 0<=9223372036854775807):HT Try.prog 14 [I l,.int .i64 m] (fun r=>∃u:List Int,r=.osl 1 u.length (HL.ints u)/\u.length<=m):=by
 refine HT.of rfl Xp (Nat.le_of_ble_eq_true rfl) ?_
 unfold c14
 simp only [I,aS,Nat.reduceAdd]
 repeat (first|refine ag ?_|refine af ?_|refine ah ?_|refine ae ?_|refine aH ?_|refine dR rfl (by rfl) dI ?_)
 refine cu [0,1,5,6] (fun u:List Int=>u.length<=m/\u.length<=l.length)
  (fun u=>⟨[(0,.sl l.length (HL.ints l)),(1,.int .i64 m),(5,.ref 0 [] 1 0 u.length),(6,.int .i64 u.length)],[(0,.osl 1 u.length (HL.ints u))],1⟩)
  (fun u=>m - u.length) [] ⟨by simp,by simp⟩ rfl ?_
 rintro u ⟨h1,h2⟩
 by_cases c1:u.length<l.length
 ·by_cases c2:u.length<m
  ·have hh:=hr u.length c1
   have hsn:∀x:Int,(u++[x]).length=u.length+1:=by simp
   repeat (first|refine ag ?_|refine aK ?_|refine aZ ?_|refine dP ?_|refine af ?_|refine az ?_|refine aN ?_|refine bY (by rfl) ?_|refine au ?_|refine ah ?_|refine ae ?_|refine aH ?_|refine aF ?_)
   refine bI bD cO (yx (l.getD u.length 0) 3 (by omega) (by omega) hh.1 hh.2) ?_
   rintro _ ⟨y,rfl,hy⟩
   refine ⟨bF,_,_,_,_,_,gq,(by decide),bC,?_⟩
   repeat (first|refine ag ?_|refine af ?_|refine bu ?_|refine ae ?_|refine fE ?_|refine bW ?_|refine gW ?_)
   exact dm [0,1,5,6] (u++[(y:Int)]) ⟨by rw [hsn];omega,by rw [hsn];omega⟩ (by rw [hsn];omega) (by rw [hsn];rfl)
  ·repeat (first|refine ag ?_|refine aK ?_|refine af ?_|refine az ?_|refine aN ?_|refine bY (by rfl) ?_|refine bK (by rfl) ?_|refine ak ?_|refine ah ?_|refine ae ?_)
   refine ax ?_
   exact ⟨u,rfl,h1⟩
 ·repeat (first|refine ag ?_|refine bV ?_|refine af ?_|refine az ?_|refine aI ?_|refine bY (by rfl) ?_|refine bK (by rfl) ?_|refine ak ?_|refine ah ?_|refine ae ?_)
  refine ax ?_
  exact ⟨u,rfl,h1⟩
end Go.Proofs.Ytlbdmpjnmfmnfaa
end
