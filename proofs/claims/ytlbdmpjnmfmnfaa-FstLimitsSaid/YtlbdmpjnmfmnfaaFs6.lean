import Derived.Test.YtlbdmpjnmfmnfaaHlBi
import Derived.Test.YtlbdmpjnmfmnfaaFt2
import Derived.Test.YtlbdmpjnmfmnfaaHlFi
import Derived.Test.YtlbdmpjnmfmnfaaCodes
import Derived.Test.YtlbdmpjnmfmnfaaFv2
import Derived.Test.YtlbdmpjnmfmnfaaFw4
section
set_option linter.unusedSimpArgs false
set_option linter.unusedVariables false
namespace Go.Proofs.Ytlbdmpjnmfmnfaa
set_option linter.unusedSimpArgs false
open Go.RowKit Go.HL
theorem Ny (n:Nat) (hn:n<=1000000):HT Try.prog 103 [.nils,.int .i64 n] (fun r=>r=.osl 1 0 []):=by
 refine HT.of rfl WE (Nat.le_of_ble_eq_true rfl) ?_
 unfold YS
 simp only [aY,Nat.reduceAdd]
 rcases Nat.eq_zero_or_pos n with rfl|h0
 ·repeat (first|refine BR (by rfl) ?_|refine ah ?_|refine af ?_|refine aF ?_|refine au ?_|refine ak ?_|refine ae ?_|refine aI ?_)
  refine Nh (by rfl) ?_
  repeat (first|refine ah ?_|refine af ?_|refine fG (by rfl) ?_|refine au ?_|refine ak ?_|refine ae ?_|refine aI ?_|refine bK ?_|refine zo (by rfl) (by rfl) TL ?_|refine bP ?_)
  refine ay ?_
  rfl
 ·have hi:(0:Int)<n:=by omega
  repeat (first|refine BR (by rfl) ?_|refine ah ?_|refine af ?_|refine aF ?_|refine au ?_|refine ak ?_|refine ae ?_|refine aI ?_)
  refine Nh (by rfl) ?_
  repeat (first|refine BR (by rfl) ?_|refine ah ?_|refine af ?_|refine ax ?_|refine ak ?_|refine ae ?_|refine zo (by rfl) (by rfl) (by (try simp (disch:=omega) only [go_sem,Int.reduceAdd,Int.reduceSub,Int.reduceMul,decide_eq_true hi]);try rfl) ?_|refine bP ?_|refine JD (by rfl) ?_)
  refine Nh (by rfl) ?_
  skip
  refine SE (by rfl) (by rfl) ?_
  repeat (first|refine ah ?_)
  refine UI (fr:=288) (cs:=(List.replicate n [HV.bool false]).flatten) (by rfl) (by rfl) h0 (by omega) iC (by rfl) rfl ?_
  repeat (first|refine BR (by rfl) ?_|refine ah ?_|refine af ?_|refine ak ?_|refine ae ?_|refine JD (by rfl) ?_|refine L6 (by rfl) (by rfl) (by rfl) (by omega) aO dZ ?_)
  refine yx 4 [4] (⟨[(4,.ref 0 [] 1 0 0)],[(0,.osl 1 0 [])],1⟩:St) rfl rfl (Nat.zero_le _) (by rw [Dh];exact HL.bools_flat _) (by decide) rfl ?_
  refine ay ?_
  rfl
end Go.Proofs.Ytlbdmpjnmfmnfaa
end
section
set_option linter.unusedSimpArgs false
set_option linter.unusedVariables false
namespace Go.Proofs.Ytlbdmpjnmfmnfaa
set_option linter.unusedSimpArgs false
open Go.RowKit Go.HL
def bR (ll:List (List Bool)):List HV:=ll.map fun b=>.sl b.length (HL.bools b)
theorem UU (ll:List (List Bool)):(bR ll).length=ll.length:=by simp [bR]
theorem TM (ll:List (List Bool)) {i:Nat} (h:i<ll.length):(bR ll).getD i .dead=.sl (ll.getD i []).length (HL.bools (ll.getD i [])):=by simp [bR,h]
attribute [go_sem] UU TM
def wC (ll:List (List Bool)) (i:Nat):Nat:=((ll.take i).flatten).length
theorem zf {ll:List (List Bool)} {i:Nat} (h:i<ll.length):(ll.take (i+1)).flatten=(ll.take i).flatten++ll.getD i []:=by
 rw [List.take_add_one,List.getElem?_eq_getElem h,List.getD_eq_getElem?_getD,List.getElem?_eq_getElem h,List.flatten_append]
 simp only [Option.toList_some,List.flatten_cons,List.flatten_nil,List.append_nil,Option.getD_some]
theorem wM {ll:List (List Bool)} {i:Nat}:wC ll i<=ll.flatten.length:=by
 unfold wC
 have:(ll.take i).flatten++(ll.drop i).flatten=ll.flatten:=by rw [<- List.flatten_append,List.take_append_drop]
 rw [<- this,List.length_append];omega
set_option maxHeartbeats 4000000 in
theorem yY (ll:List (List Bool)) (hl:ll.length<=1000) (hs:ll.flatten.length<=1000000):HT Try.prog 74 [.sl ll.length (bR ll)] (fun r=>r=.osl 1 ll.flatten.length (HL.bools ll.flatten)):=by
 refine HT.of rfl ZJ (Nat.le_of_ble_eq_true rfl) ?_
 unfold c74
 simp only [aY,Nat.reduceAdd]
 repeat (first|refine ah ?_|refine af ?_|refine dm (by rfl) ?_|refine ak ?_|refine ae ?_|refine aK ?_|refine bK ?_)
 refine dn [0,3,9,10,11] (fun i:Nat=>i<=ll.length)
  (fun i=>⟨[(0,.sl ll.length (bR ll)),(3,.int .i64 (wC ll i)),(9,.sl ll.length (bR ll)),(10,.int .i64 ll.length),(11,.int .i64 i)],[],0⟩)
  (fun i=>ll.length - i) 0 (by omega) (by simp [wC];rfl) ?_
 intro i hi
 have hc:=wM (ll:=ll) (i:=i)
 by_cases hil:i<ll.length
 ·have hst:=zf hil
  have hc2:=wM (ll:=ll) (i:=i+1)
  have e:wC ll (i+1)=wC ll i+(ll.getD i []).length:=by unfold wC;rw [hst,List.length_append]
  have hneg:¬ ((wC ll i:Int)+((ll.getD i []).length:Int)<0):=by omega
  repeat (first|refine ah ?_|refine bu ?_|refine dP ?_|refine af ?_|refine aF ?_|refine bM ?_|refine dm (by rfl) ?_|refine ax ?_|refine au ?_|refine ak ?_|refine ae ?_|refine aK ?_|refine gV ?_|refine aI ?_)
  exact dS [0,3,9,10,11] (i+1) hil (by omega) (by rw [e];rfl)
 ·obtain rfl:i=ll.length:=by omega
  have e0:wC ll ll.length=ll.flatten.length:=by unfold wC;rw [List.take_length]
  rw [e0]
  repeat (first|refine ah ?_|refine af ?_|refine aF ?_|refine bZ (by rfl) ?_|refine au ?_|refine ak ?_|refine ae ?_)
  refine bT bH dw (Ny ll.flatten.length hs) ?_
  rintro _ rfl
  refine ⟨bJ,_,_,_,_,_,gY,(by decide),bF,?_⟩
  repeat (first|refine ah ?_|refine af ?_|refine dm (by rfl) ?_|refine ak ?_|refine ae ?_|refine aK ?_)
  refine dn [6,25,26,27] (fun i:Nat=>i<=ll.length)
   (fun i=>⟨[(6,.ref 0 [] 1 0 (ll.take i).flatten.length),(25,.sl ll.length (bR ll)),(26,.int .i64 ll.length),(27,.int .i64 i)],[(0,.osl 1 (ll.take i).flatten.length (HL.bools (ll.take i).flatten))],1⟩)
   (fun i=>ll.length - i) 0 (by omega) (by simp;rfl) ?_
  intro i hi
  have hc:=wM (ll:=ll) (i:=i)
  unfold wC at hc
  by_cases hil:i<ll.length
  ·have hst:=zf hil
   have hc2:=wM (ll:=ll) (i:=i+1)
   unfold wC at hc2
   rw [hst,List.length_append] at hc2
   generalize (ll.take i).flatten=Q at hst hc hc2 ⊢
   generalize hb:ll.getD i []=b at hst hc2
   repeat (first|refine ah ?_|refine bu ?_|refine jf (by rfl) aQ (by (try simp (disch:=omega) only [go_sem,hb,HL.bools_app]);try rfl) ?_|refine af ?_|refine aF ?_|refine kF (by rfl) (by rfl) (by (try simp (disch:=omega) only [go_sem,Int.reduceAdd,Int.reduceSub,Int.reduceMul,hb,HL.bools_app]);try rfl) ?_|refine ax ?_|refine ak ?_|refine ae ?_|refine aK ?_|refine gV ?_|refine aI ?_|refine lI dZ (by rfl) aJ sK (by (try simp (disch:=omega) only [go_sem,reduceIte,Nat.reduceEqDiff,Nat.reduceAdd,Nat.reduceMul,hb,HL.bools_app]);try omega) bQ (by (try simp (disch:=omega) only [go_sem,reduceIte,Nat.reduceEqDiff,Nat.reduceAdd,Nat.reduceMul,hb,HL.bools_app]);try rfl) dZ (by omega) iC aQ (by (try simp (disch:=omega) only [go_sem,reduceIte,Nat.reduceEqDiff,Nat.reduceAdd,Nat.reduceMul,hb,HL.bools_app]);try rfl) aO ?_)
   refine dS [6,25,26,27] (i+1) hil (by omega) ?_
   rw [hst]
   simp only [List.length_append]
   rfl
  ·obtain rfl:i=ll.length:=by omega
   rw [List.take_length]
   repeat (first|refine ah ?_|refine af ?_|refine aF ?_|refine bZ (by rfl) ?_|refine au ?_|refine ak ?_|refine ae ?_)
   refine ay ?_
   rfl
end Go.Proofs.Ytlbdmpjnmfmnfaa
end
section
set_option linter.unusedSimpArgs false
set_option linter.unusedVariables false
namespace Go.Proofs.Ytlbdmpjnmfmnfaa
set_option linter.unusedSimpArgs false
set_option linter.unnecessarySimpa false
open Go.RowKit Go.HL Go.FS
abbrev Tn:=List Bool×List A
def jm (p q:Int):A:=⟨p,-1,-1,q⟩
def Ed (p q:Tn):Tn:=if zX [p,q] then ([false]++(p.1++q.1),[jm 0 1,jm 0 (1+p.1.length)]++p.2.map (nX 1)++q.2.map (nX (1+p.1.length))) else ([],[])
def lU (p q:Tn):Tn:=if zX [p,q] then (List.replicate p.1.length false++q.1,p.2.map (nX 0)++q.2.map (nX p.1.length)++(ng p.1 p.1.length).map fun i=>jm i p.1.length) else ([],[])
theorem Qe {p q:Tn} (h:zX [p,q]=true):okF p.1 p.2=true/\okF q.1 q.2=true/\p.1.length+q.1.length<=2000/\p.2.length+q.2.length<=6000:=by
 simp only [zX,List.all_cons,List.all_nil,Bool.and_true,Bool.and_eq_true,decide_eq_true_eq,yE,xZ,List.map_cons,List.map_nil,List.sum_cons,List.sum_nil,Nat.add_zero] at h
 exact ⟨h.1.1,h.1.2,h.2.1,h.2.2⟩
end Go.Proofs.Ytlbdmpjnmfmnfaa
end
section
set_option linter.unusedSimpArgs false
set_option linter.unusedVariables false
namespace Go.Proofs.Ytlbdmpjnmfmnfaa
open Go.RowKit Go.HL Go.FS
theorem H5 (l:List Bool) (h:0<l.length) (h2:l.length<=100000000):HT Try.prog 67 [.sl l.length (HL.bools l)] (fun r=>r=.osl 1 l.length (HL.bools l)):=by
 refine HT.of rfl aaz (Nat.le_of_ble_eq_true rfl) ?_
 unfold c67
 simp only [aY,Nat.reduceAdd]
 repeat (first|refine ah ?_|refine af ?_|refine au ?_|refine ak ?_|refine ae ?_|refine aI ?_|refine bK ?_|refine cO ?_|refine jv ?_|refine Na (by rfl) (by omega) ?_)
 refine ay ?_
 rfl
def yN (a:A):A:=⟨a.f,a.o,a.i,a.t⟩
def Ll (fin:List Bool) (al:List A):List Bool×List A:=if okF fin al=true then (fin,al.map yN) else ([],[])
set_option maxHeartbeats 8000000 in
theorem IG (fin:List Bool) (al:List A) (hf:fin.length<=9223372036854775807) (ha:al.length<=9223372036854775807):HT Try.prog 23 [.agg (iF fin al)] (fun r=>r=.agg (iF (Ll fin al).1 (Ll fin al).2)):=by
 refine HT.ofC rfl ZY [2] rfl (Nat.le_of_ble_eq_true rfl) ?_
 unfold c23
 have hvd:=jF fin al hf ha
 simp only [aY,Nat.reduceAdd]
 simp only [iF,jJ] at hvd ⊢
 repeat (first|refine af ?_|refine ak ?_|refine ae ?_|refine gq ?_|refine dX ?_|refine bI dZ ?_)
 refine bT bH dw (hvd) ?_
 rintro _ rfl
 by_cases hv:okF fin al=true
 ·have ht:Ll fin al=(fin,al.map yN):=if_pos hv
  rw [hv]
  refine ⟨bJ,_,_,_,_,_,gY,(by decide),bF,?_⟩
  obtain ⟨h1,h2,h3⟩:=gm hv
  repeat (first|refine aW ?_|refine af ?_|refine au ?_|refine ak ?_|refine ae ?_|refine aI ?_|refine iU (by rfl) ?_|refine aH ?_)
  refine bT bH dw (H5 fin (by omega) (by omega)) ?_
  rintro _ rfl
  refine ⟨bJ,_,_,_,_,_,gY,(by decide),bF,?_⟩
  repeat (first|refine ah ?_|refine aW ?_|refine af ?_|refine dm (by rfl) ?_|refine ak ?_|refine ae ?_|refine aK ?_|refine aH ?_|refine dH ?_|refine bI dZ ?_|refine bY ?_)
  refine fJ 144 [1,4] [2,3,15,16,17] (⟨[(2,.pref 0 [] 0),(3,.pref 1 [] 0),(15,.sl al.length (recs aC al)),(16,.int .i64 al.length),(17,.int .i64 0)],[(0,.optr [.nils,.nils]),(1,.optr [.osl 1 fin.length (HL.bools fin),.osl 4 0 []])],2⟩:St) rfl rfl ?_
  refine dn [2,3,15,16,17] (fun k:Nat=>k<=al.length)
   (fun k=>⟨[(2,.pref 0 [] 0),(3,.pref 1 [] 0),(15,.sl al.length (recs aC al)),(16,.int .i64 al.length),(17,.int .i64 k)],[(0,.optr [.nils,.nils]),(1,.optr [.osl 1 fin.length (HL.bools fin),.osl 4 k (recs aC ((al.take k).map yN))])],2⟩)
   (fun k=>al.length - k) 0 (by omega) rfl ?_
  intro k hk
  by_cases hkl:k<al.length
  ·have hst:(al.take (k+1)).map yN=(al.take k).map yN++[yN (al.getD k default)]:=by rw [dC hkl,List.map_append];rfl
   have hml:((al.take k).map yN).length=k:=by simp;omega
   generalize (al.take k).map yN=ml at hst hml
   repeat (first|refine ah ?_|refine bu ?_|refine aW ?_|refine af ?_|refine aF ?_|refine bM ?_|refine ax ?_|refine ak ?_|refine ae ?_|refine aK ?_|refine gV ?_|refine aI ?_|refine aH ?_|refine bG ?_|refine dG ?_|refine dH ?_|refine cO ?_|refine bI dZ ?_|refine jv ?_|refine bY ?_)
   exact dS [2,3,15,16,17] (k+1) hkl (by omega) (by simp only [hst,yN];rfl)
  ·obtain rfl:k=al.length:=by omega
   rw [List.take_length]
   refine bU 1 [2,3,16,17] ⟨[(2,.pref 0 [] 0),(3,.ptr (stripL [.osl 1 fin.length (HL.bools fin),.osl 4 al.length (recs aC (al.map yN))]) 0),(16,.int .i64 al.length),(17,.int .i64 al.length)],[(0,.optr [.nils,.nils])],1⟩ rfl ?_
   rw [kJ]
   repeat (first|refine af ?_|refine aF ?_|refine bZ (by rfl) ?_|refine au ?_|refine ak ?_|refine ae ?_|refine bG ?_|refine dH ?_)
   refine ay ?_
   exact ⟨_,_,rfl,rfl,by rw [ht];simp only [iF,jJ,List.length_map];rfl⟩
 ·have ht:Ll fin al=([],[]):=if_neg hv
  rw [show okF fin al=false by simpa using hv]
  refine ⟨bJ,_,_,_,_,_,gY,(by decide),bF,?_⟩
  repeat (first|refine af ?_|refine ax ?_|refine ak ?_|refine ae ?_|refine jC (by rfl) ?_|refine dH ?_|refine bY ?_)
  refine fJ 16 [1,4] [2] (⟨[(2,.pref 0 [] 0)],[(0,.optr [.osl 1 0 [],.osl 4 0 []])],1⟩:St) rfl rfl ?_
  refine nO 0 [2] ⟨[(2,.pref 0 [] 0)],[(0,.optr [.sl 0 [],.sl 0 []])],1⟩ rfl rfl ?_
  refine ay ?_
  exact ⟨_,_,rfl,rfl,by rw [ht];rfl⟩
end Go.Proofs.Ytlbdmpjnmfmnfaa
end
