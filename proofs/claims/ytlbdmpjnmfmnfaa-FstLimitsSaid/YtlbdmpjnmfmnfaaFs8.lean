import Derived.Test.YtlbdmpjnmfmnfaaFs7
import Derived.Test.YtlbdmpjnmfmnfaaHlMv
set_option linter.unusedSimpArgs false
set_option linter.unusedVariables false
namespace Go.Proofs.Ytlbdmpjnmfmnfaa
open Go.RowKit Go.HL Go.FS
def yV (u v:List Int):Nat:=max u.length v.length
def Lu (u v:List Int):Bool:=u.any rW || v.any rW || decide (1024<yV u v)
def N8 (u v:List Int) (k:Nat):List A:=(List.range k).map fun i:Nat=>⟨i,u.getD i (-1),v.getD i (-1),(i:Int)+1⟩
def rF (u v:List Int):List Bool×List A:=if Lu u v then ([],[]) else ((List.replicate (yV u v+1) false).set (yV u v) true,N8 u v (yV u v))
theorem wH {u v:List Int} {k:Nat}:(N8 u v k).length=k:=by simp [N8]
theorem NP {u v:List Int} {k:Nat}:N8 u v (k+1)=N8 u v k++[⟨k,u.getD k (-1),v.getD k (-1),(k:Int)+1⟩]:=by simp [N8,List.range_succ]
attribute [go_sem] List.length_replicate
def YY:List HV->Int
 | [.sl n cs,.int _ j]=>if j.toNat<n then (match cs.getD j.toNat .dead with|.int _ z=>z|_=>0) else -1
 | _=>0
theorem qp (u:List Int) (k:Nat):YY [.sl u.length (HL.ints u),.int .i64 k]=u.getD k (-1):=by
 by_cases h:k<u.length
 ·simp [YY,h,HL.ints]
 ·simp [YY,h]
theorem Kz (u:List Int) (k:Nat) (hu:u.length<=9223372036854775807):HT Try.prog 80 [.sl u.length (HL.ints u),.int .i64 k] (fun r=>r=.int .i64 (YY [.sl u.length (HL.ints u),.int .i64 k])):=by
 rw [qp];exact Pn u k hu
def xU (fin:List Bool) (al:List A):List HV:=[.osl 1 fin.length (HL.bools fin),.osl 4 al.length (recs aC al)]
set_option maxHeartbeats 8000000 in
theorem yc (u v:List Int) (hu:u.length<=4611686018427387904) (hv:v.length<=4611686018427387904):HT Try.prog 32 [.sl u.length (HL.ints u),.sl v.length (HL.ints v)] (fun r=>r=.agg (xU (rF u v).1 (rF u v).2)):=by
 refine HT.ofC rfl ZX [4] rfl (Nat.le_of_ble_eq_true rfl) ?_
 unfold c32
 simp only [aY,Nat.reduceAdd]
 have hmx:(if (v.length:Int)<(u.length:Int) then (u.length:Int) else (v.length:Int))=(yV u v:Int):=by unfold yV;split<;>omega
 have hmx2:(if (u.length:Int)<(v.length:Int) then (v.length:Int) else (u.length:Int))=(yV u v:Int):=by unfold yV;split<;>omega
 have a1:=Gi u (by omega)
 have a2:=Gi v (by omega)
 repeat (first|refine ah ?_|refine af ?_|refine ak ?_|refine ae ?_|refine bI dZ ?_)
 refine bT bH dw (a1) ?_
 rintro _ rfl
 cases h1:u.any rW with
 | true =>
  have ht:rF u v=([],[]):=by unfold rF Lu;rw [h1];rfl
  refine ⟨bJ,_,_,_,_,_,gY,(by decide),bF,?_⟩
  repeat (first|refine ah ?_|refine dI ?_|refine af ?_|refine aU ?_|refine ax ?_|refine ak ?_|refine ae ?_|refine dH ?_|refine bY ?_)
  refine fJ 0 [1,4] [4] (⟨[(4,.pref 0 [] 0)],[(0,.optr [.osl 1 0 [],.osl 4 0 []])],1⟩:St) rfl rfl ?_
  refine ay ?_
  exact ⟨_,_,rfl,rfl,by rw [ht];rfl⟩
 | false =>
  refine ⟨bJ,_,_,_,_,_,gY,(by decide),bF,?_⟩
  repeat (first|refine ah ?_|refine aT ?_)
  refine bT bH dw (a2) ?_
  rintro _ rfl
  cases h2:v.any rW with
  | true =>
   have ht:rF u v=([],[]):=by unfold rF Lu;rw [h1,h2];rfl
   refine ⟨bJ,_,_,_,_,_,gY,(by decide),bF,?_⟩
   repeat (first|refine ah ?_|refine dI ?_|refine af ?_|refine aU ?_|refine aS ?_|refine ax ?_|refine ak ?_|refine ae ?_|refine dH ?_|refine bY ?_)
   refine fJ 0 [1,4] [4] (⟨[(4,.pref 0 [] 0)],[(0,.optr [.osl 1 0 [],.osl 4 0 []])],1⟩:St) rfl rfl ?_
   refine ay ?_
   exact ⟨_,_,rfl,rfl,by rw [ht];rfl⟩
  | false =>
   refine ⟨bJ,_,_,_,_,_,gY,(by decide),bF,?_⟩
   by_cases h3:1024<yV u v
   ·have ht:rF u v=([],[]):=by unfold rF Lu;rw [h1,h2,decide_eq_true h3];rfl
    repeat (first|refine ah ?_|refine aT ?_|refine af ?_|refine aS ?_|refine dm (by rfl) ?_|refine ax ?_|refine ak ?_|refine ae ?_|refine bP ?_|refine lK (by rfl) aJ aO jh lS (by rfl) nC (by rfl) mV (by (try simp (disch:=omega) only [go_sem,reduceIte,Nat.reduceEqDiff,Nat.reduceAdd,Nat.reduceMul,hmx,hmx2]);try rfl) aQ (by (try simp (disch:=omega) only [go_sem,hmx,hmx2]);try rfl) aO jk ?_|refine Yw (by rfl) (by rfl) (by (try simp only [go_sem,reduceIte,hmx,hmx2]);try rfl) ?_|refine bY ?_)
    refine fJ 0 [1,4] [4] (⟨[(4,.pref 0 [] 0)],[(0,.optr [.osl 1 0 [],.osl 4 0 []])],1⟩:St) rfl rfl ?_
    refine ay ?_
    exact ⟨_,_,rfl,rfl,by rw [ht];rfl⟩
   ·have ht:rF u v=((List.replicate (yV u v+1) false).set (yV u v) true,N8 u v (yV u v)):=by unfold rF Lu;rw [h1,h2,decide_eq_false h3];rfl
    have hn1:((yV u v:Int)+1).toNat=yV u v+1:=by omega
    generalize hN:yV u v=N at h3 hn1 hmx hmx2 ht
    repeat (first|refine ah ?_|refine aT ?_|refine gQ ?_|refine iG (by rfl) bQ (by (try simp (disch:=omega) only [go_sem,reduceIte,Nat.reduceEqDiff,Nat.reduceAdd,Nat.reduceMul,hmx,hmx2,hn1]);try rfl) aQ (by (try simp (disch:=omega) only [go_sem,hmx,hmx2,hn1]);try rfl) aJ ?_|refine af ?_|refine aS ?_|refine kF (by rfl) (by rfl) (by (try simp (disch:=omega) only [go_sem,Int.reduceAdd,Int.reduceSub,Int.reduceMul,hmx,hmx2,hn1]);try rfl) ?_|refine dm (by rfl) ?_|refine au ?_|refine ak ?_|refine ae ?_|refine aK ?_|refine aI ?_|refine bP ?_|refine aH ?_|refine yP (by rfl) aJ aO iM (by rfl) (by decide) bQ aO aQ (by (try simp (disch:=omega) only [go_sem,hmx,hmx2,hn1]);try rfl) aO ?_|refine lK (by rfl) aJ aO jh lS (by rfl) nC (by rfl) mV (by (try simp (disch:=omega) only [go_sem,reduceIte,Nat.reduceEqDiff,Nat.reduceAdd,Nat.reduceMul,hmx,hmx2,hn1]);try rfl) aQ (by (try simp (disch:=omega) only [go_sem,hmx,hmx2,hn1]);try rfl) aO jk ?_|refine bI dZ ?_|refine Yw (by rfl) (by rfl) (by (try simp only [go_sem,reduceIte,hmx,hmx2,hn1]);try rfl) ?_|refine mP dZ (by rfl) (by omega) aO aO ?_|refine bY ?_)
    refine fJ 448 [1,4] [0,1,4,7,39,40] (⟨[(0,.sl u.length (HL.ints u)),(1,.sl v.length (HL.ints v)),(4,.pref 0 [] 0),(7,.pref 1 [] 0),(39,.int .i64 N),(40,.int .i64 0)],[(0,.optr [.nils,.nils]),(1,.optr [.osl 1 (N+1) (HL.bools ((List.replicate (N+1) false).set N true)),.osl 4 0 []])],2⟩:St) rfl rfl ?_
    refine dn [0,1,4,7,39,40] (fun k:Nat=>k<=N)
     (fun k=>⟨[(0,.sl u.length (HL.ints u)),(1,.sl v.length (HL.ints v)),(4,.pref 0 [] 0),(7,.pref 1 [] 0),(39,.int .i64 N),(40,.int .i64 k)],[(0,.optr [.nils,.nils]),(1,.optr [.osl 1 (N+1) (HL.bools ((List.replicate (N+1) false).set N true)),.osl 4 k (recs aC (N8 u v k))])],2⟩)
     (fun k=>N - k) 0 (by omega) rfl ?_
    intro k hk
    by_cases hkl:k<N
    ·have hst:=NP (u:=u) (v:=v) (k:=k)
     have hwl:=wH (u:=u) (v:=v) (k:=k)
     have t1:=Kz u k (by omega)
     have t2:=Kz v k (by omega)
     repeat (first|refine ah ?_|refine af ?_|refine aF ?_|refine ax ?_|refine ak ?_|refine ae ?_|refine aK ?_|refine aI ?_)
     refine lg [0,1,8] [] bC bC (fun _ args r=>r=.int .i64 (YY args)) (by simp [aA,HV.deep,sW]) (by simp) ?_ (by rintro _ _ _ rfl fr;exact jM)
     repeat (first|refine ah ?_|refine aW ?_|refine aH ?_)
     refine jb bH dw t1 ⟨_,rfl,rfl⟩ ?_
     rintro _ rfl -
     refine ⟨bJ,_,_,_,_,_,gY,(by decide),bF,?_⟩
     repeat (first|refine ah ?_)
     refine jb bH dw t2 ⟨_,rfl,rfl⟩ ?_
     rintro _ rfl -
     refine ⟨bJ,_,_,_,_,_,gY,(by decide),bF,?_⟩
     repeat (first|refine ah ?_|refine af ?_|refine kF (by rfl) (by rfl) (by (try simp (disch:=omega) only [go_sem,Int.reduceAdd,Int.reduceSub,Int.reduceMul,qp]);try rfl) ?_|refine ae ?_|refine gV ?_|refine aH ?_|refine lK (by rfl) aJ aO jh lS (by rfl) nC (by rfl) mV (by (try simp (disch:=omega) only [go_sem,reduceIte,Nat.reduceEqDiff,Nat.reduceAdd,Nat.reduceMul,qp]);try rfl) aQ (by (try simp (disch:=omega) only [go_sem,qp]);try rfl) aO jk ?_|refine cO ?_|refine lI dZ (by rfl) aJ sK (by (try simp (disch:=omega) only [go_sem,reduceIte,Nat.reduceEqDiff,Nat.reduceAdd,Nat.reduceMul,qp]);try omega) bQ (by (try simp (disch:=omega) only [go_sem,reduceIte,Nat.reduceEqDiff,Nat.reduceAdd,Nat.reduceMul,qp]);try rfl) dZ (by omega) iC aQ (by (try simp (disch:=omega) only [go_sem,reduceIte,Nat.reduceEqDiff,Nat.reduceAdd,Nat.reduceMul,qp]);try rfl) aO ?_|refine bY ?_)
     exact dS [0,1,4,7,39,40] (k+1) hkl (by omega) (by simp only [hst,qp,hwl];rfl)
    ·obtain rfl:k=N:=by omega
     repeat (first|refine af ?_|refine aF ?_|refine bZ (by rfl) ?_|refine au ?_|refine ak ?_|refine ae ?_)
     refine KA aJ (by rfl) (by rfl) gY (by decide) bF ?_
     repeat (first|refine af ?_|refine dH ?_)
     refine ay ?_
     exact ⟨_,_,rfl,rfl,by rw [ht];simp only [xU,wH,List.length_set,List.length_replicate];rfl⟩
end Go.Proofs.Ytlbdmpjnmfmnfaa
