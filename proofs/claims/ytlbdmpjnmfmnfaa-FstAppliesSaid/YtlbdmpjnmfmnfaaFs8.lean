import Derived.Test.YtlbdmpjnmfmnfaaFs7
import Derived.Test.YtlbdmpjnmfmnfaaHlMv
set_option linter.unusedSimpArgs false
set_option linter.unusedVariables false
namespace Go.Proofs.Ytlbdmpjnmfmnfaa
open Go.RowKit Go.HL Go.FS
def EH (u v:List Int):Nat:=max u.length v.length
def wdB (u v:List Int):Bool:=u.any xk || v.any xk || decide (1024<EH u v)
def Pv (u v:List Int) (k:Nat):List A:=(List.range k).map fun i:Nat=>⟨i,u.getD i (-1),v.getD i (-1),(i:Int)+1⟩
def MQ (u v:List Int):List Bool×List A:=if wdB u v then ([],[]) else ((List.replicate (EH u v+1) false).set (EH u v) true,Pv u v (EH u v))
theorem FM {u v:List Int} {k:Nat}:(Pv u v k).length=k:=by simp [Pv]
theorem MO {u v:List Int} {k:Nat}:Pv u v (k+1)=Pv u v k++[⟨k,u.getD k (-1),v.getD k (-1),(k:Int)+1⟩]:=by simp [Pv,List.range_succ]
attribute [go_sem] List.length_replicate
def ZW:List HV->Int
 | [.sl n cs,.int _ j]=>if j.toNat<n then (match cs.getD j.toNat .dead with|.int _ z=>z|_=>0) else -1
 | _=>0
theorem qB (u:List Int) (k:Nat):ZW [.sl u.length (HL.ints u),.int .i64 k]=u.getD k (-1):=by
 by_cases h:k<u.length
 ·simp [ZW,h,HL.ints]
 ·simp [ZW,h]
theorem MV (u:List Int) (k:Nat) (hu:u.length<=9223372036854775807):HT Try.prog 80 [.sl u.length (HL.ints u),.int .i64 k] (fun r=>r=.int .i64 (ZW [.sl u.length (HL.ints u),.int .i64 k])):=by
 rw [qB];exact OX u k hu
def DX (fin:List Bool) (al:List A):List HV:=[.osl 1 fin.length (HL.bools fin),.osl 4 al.length (recs aC al)]
set_option maxHeartbeats 8000000 in
theorem L6 (u v:List Int) (hu:u.length<=4611686018427387904) (hv:v.length<=4611686018427387904):HT Try.prog 32 [.sl u.length (HL.ints u),.sl v.length (HL.ints v)] (fun r=>r=.agg (DX (MQ u v).1 (MQ u v).2)):=by
 refine HT.ofC rfl abQ [4] rfl (Nat.le_of_ble_eq_true rfl) ?_
 unfold c32
 simp only [aX,Nat.reduceAdd]
 have hmx:(if (v.length:Int)<(u.length:Int) then (u.length:Int) else (v.length:Int))=(EH u v:Int):=by unfold EH;split<;>omega
 have hmx2:(if (u.length:Int)<(v.length:Int) then (v.length:Int) else (u.length:Int))=(EH u v:Int):=by unfold EH;split<;>omega
 have a1:=FD u (by omega)
 have a2:=FD v (by omega)
 repeat (first|refine ah ?_|refine af ?_|refine au ?_|refine ae ?_|refine bU dN ?_)
 refine dF bW dm (a1) ?_
 rintro _ rfl
 cases h1:u.any xk with
 | true =>
  have ht:MQ u v=([],[]):=by unfold MQ wdB;rw [h1];rfl
  refine ⟨cO,_,_,_,_,_,gY,(by decide),bT,?_⟩
  repeat (first|refine ah ?_|refine cu ?_|refine af ?_|refine aK ?_|refine ak ?_|refine au ?_|refine ae ?_|refine dw ?_|refine dB ?_)
  refine gQ 0 [1,4] [4] (⟨[(4,.pref 0 [] 0)],[(0,.optr [.osl 1 0 [],.osl 4 0 []])],1⟩:St) rfl rfl ?_
  refine az ?_
  exact ⟨_,_,rfl,rfl,by rw [ht];rfl⟩
 | false =>
  refine ⟨cO,_,_,_,_,_,gY,(by decide),bT,?_⟩
  repeat (first|refine ah ?_|refine aO ?_)
  refine dF bW dm (a2) ?_
  rintro _ rfl
  cases h2:v.any xk with
  | true =>
   have ht:MQ u v=([],[]):=by unfold MQ wdB;rw [h1,h2];rfl
   refine ⟨cO,_,_,_,_,_,gY,(by decide),bT,?_⟩
   repeat (first|refine ah ?_|refine cu ?_|refine af ?_|refine aK ?_|refine aN ?_|refine ak ?_|refine au ?_|refine ae ?_|refine dw ?_|refine dB ?_)
   refine gQ 0 [1,4] [4] (⟨[(4,.pref 0 [] 0)],[(0,.optr [.osl 1 0 [],.osl 4 0 []])],1⟩:St) rfl rfl ?_
   refine az ?_
   exact ⟨_,_,rfl,rfl,by rw [ht];rfl⟩
  | false =>
   refine ⟨cO,_,_,_,_,_,gY,(by decide),bT,?_⟩
   by_cases h3:1024<EH u v
   ·have ht:MQ u v=([],[]):=by unfold MQ wdB;rw [h1,h2,decide_eq_true h3];rfl
    repeat (first|refine ah ?_|refine aO ?_|refine af ?_|refine aN ?_|refine aB ?_|refine ak ?_|refine au ?_|refine ae ?_|refine bI ?_|refine kF (by rfl) aQ aI iW kG (by rfl) kX (by rfl) kY (by (try simp (disch:=omega) only [go_sem,reduceIte,Nat.reduceEqDiff,Nat.reduceAdd,Nat.reduceMul,hmx,hmx2]);try rfl) aG (by (try simp (disch:=omega) only [go_sem,hmx,hmx2]);try rfl) aI jk ?_|refine Pg (by rfl) (by rfl) (by (try simp only [go_sem,reduceIte,hmx,hmx2]);try rfl) ?_|refine dB ?_)
    refine gQ 0 [1,4] [4] (⟨[(4,.pref 0 [] 0)],[(0,.optr [.osl 1 0 [],.osl 4 0 []])],1⟩:St) rfl rfl ?_
    refine az ?_
    exact ⟨_,_,rfl,rfl,by rw [ht];rfl⟩
   ·have ht:MQ u v=((List.replicate (EH u v+1) false).set (EH u v) true,Pv u v (EH u v)):=by unfold MQ wdB;rw [h1,h2,decide_eq_false h3];rfl
    have hn1:((EH u v:Int)+1).toNat=EH u v+1:=by omega
    generalize hN:EH u v=N at h3 hn1 hmx hmx2 ht
    repeat (first|refine ah ?_|refine aO ?_|refine cZ ?_|refine dK (by rfl) aW (by (try simp (disch:=omega) only [go_sem,reduceIte,Nat.reduceEqDiff,Nat.reduceAdd,Nat.reduceMul,hmx,hmx2,hn1]);try rfl) aG (by (try simp (disch:=omega) only [go_sem,hmx,hmx2,hn1]);try rfl) aQ ?_|refine af ?_|refine aN ?_|refine eU (by rfl) (by rfl) (by (try simp (disch:=omega) only [go_sem,Int.reduceAdd,Int.reduceSub,Int.reduceMul,hmx,hmx2,hn1]);try rfl) ?_|refine aB ?_|refine ax ?_|refine au ?_|refine ae ?_|refine aA ?_|refine aH ?_|refine bI ?_|refine aF ?_|refine kL (by rfl) aQ aI fH (by rfl) (by decide) aW aI aG (by (try simp (disch:=omega) only [go_sem,hmx,hmx2,hn1]);try rfl) aI ?_|refine kF (by rfl) aQ aI iW kG (by rfl) kX (by rfl) kY (by (try simp (disch:=omega) only [go_sem,reduceIte,Nat.reduceEqDiff,Nat.reduceAdd,Nat.reduceMul,hmx,hmx2,hn1]);try rfl) aG (by (try simp (disch:=omega) only [go_sem,hmx,hmx2,hn1]);try rfl) aI jk ?_|refine bU dN ?_|refine Pg (by rfl) (by rfl) (by (try simp only [go_sem,reduceIte,hmx,hmx2,hn1]);try rfl) ?_|refine lH dN (by rfl) (by omega) aI aI ?_|refine dB ?_)
    refine gQ 448 [1,4] [0,1,4,7,39,40] (⟨[(0,.sl u.length (HL.ints u)),(1,.sl v.length (HL.ints v)),(4,.pref 0 [] 0),(7,.pref 1 [] 0),(39,.int .i64 N),(40,.int .i64 0)],[(0,.optr [.nils,.nils]),(1,.optr [.osl 1 (N+1) (HL.bools ((List.replicate (N+1) false).set N true)),.osl 4 0 []])],2⟩:St) rfl rfl ?_
    refine bQ [0,1,4,7,39,40] (fun k:Nat=>k<=N)
     (fun k=>⟨[(0,.sl u.length (HL.ints u)),(1,.sl v.length (HL.ints v)),(4,.pref 0 [] 0),(7,.pref 1 [] 0),(39,.int .i64 N),(40,.int .i64 k)],[(0,.optr [.nils,.nils]),(1,.optr [.osl 1 (N+1) (HL.bools ((List.replicate (N+1) false).set N true)),.osl 4 k (recs aC (Pv u v k))])],2⟩)
     (fun k=>N - k) 0 (by omega) rfl ?_
    intro k hk
    by_cases hkl:k<N
    ·have hst:=MO (u:=u) (v:=v) (k:=k)
     have hwl:=FM (u:=u) (v:=v) (k:=k)
     have t1:=MV u k (by omega)
     have t2:=MV v k (by omega)
     repeat (first|refine ah ?_|refine af ?_|refine ay ?_|refine ak ?_|refine au ?_|refine ae ?_|refine aA ?_|refine aH ?_)
     refine iU [0,1,8] [] bu bu (fun _ args r=>r=.int .i64 (ZW args)) (by simp [aV,HV.deep,kJ]) (by simp) ?_ (by rintro _ _ _ rfl fr;exact jo)
     repeat (first|refine ah ?_|refine aS ?_|refine aF ?_)
     refine fD bW dm t1 ⟨_,rfl,rfl⟩ ?_
     rintro _ rfl -
     refine ⟨cO,_,_,_,_,_,gY,(by decide),bT,?_⟩
     repeat (first|refine ah ?_)
     refine fD bW dm t2 ⟨_,rfl,rfl⟩ ?_
     rintro _ rfl -
     refine ⟨cO,_,_,_,_,_,gY,(by decide),bT,?_⟩
     repeat (first|refine ah ?_|refine af ?_|refine eU (by rfl) (by rfl) (by (try simp (disch:=omega) only [go_sem,Int.reduceAdd,Int.reduceSub,Int.reduceMul,qB]);try rfl) ?_|refine ae ?_|refine dH ?_|refine aF ?_|refine kF (by rfl) aQ aI iW kG (by rfl) kX (by rfl) kY (by (try simp (disch:=omega) only [go_sem,reduceIte,Nat.reduceEqDiff,Nat.reduceAdd,Nat.reduceMul,qB]);try rfl) aG (by (try simp (disch:=omega) only [go_sem,qB]);try rfl) aI jk ?_|refine bP ?_|refine iM dN (by rfl) aQ l9 (by (try simp (disch:=omega) only [go_sem,reduceIte,Nat.reduceEqDiff,Nat.reduceAdd,Nat.reduceMul,qB]);try omega) aW (by (try simp (disch:=omega) only [go_sem,reduceIte,Nat.reduceEqDiff,Nat.reduceAdd,Nat.reduceMul,qB]);try rfl) dN (by omega) fP aG (by (try simp (disch:=omega) only [go_sem,reduceIte,Nat.reduceEqDiff,Nat.reduceAdd,Nat.reduceMul,qB]);try rfl) aI ?_|refine dB ?_)
     exact bZ [0,1,4,7,39,40] (k+1) hkl (by omega) (by simp only [hst,qB,hwl];rfl)
    ·obtain rfl:k=N:=by omega
     repeat (first|refine af ?_|refine ay ?_|refine bD (by rfl) ?_|refine ax ?_|refine au ?_|refine ae ?_)
     refine KZ aQ (by rfl) (by rfl) gY (by decide) bT ?_
     repeat (first|refine af ?_|refine dw ?_)
     refine az ?_
     exact ⟨_,_,rfl,rfl,by rw [ht];simp only [DX,FM,List.length_set,List.length_replicate];rfl⟩
end Go.Proofs.Ytlbdmpjnmfmnfaa
