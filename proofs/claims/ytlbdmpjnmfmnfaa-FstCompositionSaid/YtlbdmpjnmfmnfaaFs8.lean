import Derived.Test.YtlbdmpjnmfmnfaaFs7
import Derived.Test.YtlbdmpjnmfmnfaaHlMv
set_option linter.unusedSimpArgs false
set_option linter.unusedVariables false
namespace Go.Proofs.Ytlbdmpjnmfmnfaa
open Go.RowKit Go.HL Go.FS
def Dw (u v:List Int):Nat:=max u.length v.length
def U7 (u v:List Int):Bool:=u.any vG || v.any vG || decide (1024<Dw u v)
def O3 (u v:List Int) (k:Nat):List A:=(List.range k).map fun i:Nat=>⟨i,u.getD i (-1),v.getD i (-1),(i:Int)+1⟩
def IU (u v:List Int):List Bool×List A:=if U7 u v then ([],[]) else ((List.replicate (Dw u v+1) false).set (Dw u v) true,O3 u v (Dw u v))
theorem EP {u v:List Int} {k:Nat}:(O3 u v k).length=k:=by simp [O3]
theorem Kq {u v:List Int} {k:Nat}:O3 u v (k+1)=O3 u v k++[⟨k,u.getD k (-1),v.getD k (-1),(k:Int)+1⟩]:=by simp [O3,List.range_succ]
attribute [go_sem] List.length_replicate
def XM:List HV->Int
 | [.sl n cs,.int _ j]=>if j.toNat<n then (match cs.getD j.toNat .dead with|.int _ z=>z|_=>0) else -1
 | _=>0
theorem oK (u:List Int) (k:Nat):XM [.sl u.length (HL.ints u),.int .i64 k]=u.getD k (-1):=by
 by_cases h:k<u.length
 ·simp [XM,h,HL.ints]
 ·simp [XM,h]
theorem Jt (u:List Int) (k:Nat) (hu:u.length<=9223372036854775807):HT Try.prog 80 [.sl u.length (HL.ints u),.int .i64 k] (fun r=>r=.int .i64 (XM [.sl u.length (HL.ints u),.int .i64 k])):=by
 rw [oK];exact MP u k hu
def BF (fin:List Bool) (al:List A):List HV:=[.osl 1 fin.length (HL.bools fin),.osl 4 al.length (recs aC al)]
set_option maxHeartbeats 8000000 in
theorem KZ (u v:List Int) (hu:u.length<=4611686018427387904) (hv:v.length<=4611686018427387904):HT Try.prog 32 [.sl u.length (HL.ints u),.sl v.length (HL.ints v)] (fun r=>r=.agg (BF (IU u v).1 (IU u v).2)):=by
 refine HT.ofC rfl YX [4] rfl (Nat.le_of_ble_eq_true rfl) ?_
 unfold c32
 simp only [aW,Nat.reduceAdd]
 have hmx:(if (v.length:Int)<(u.length:Int) then (u.length:Int) else (v.length:Int))=(Dw u v:Int):=by unfold Dw;split<;>omega
 have hmx2:(if (u.length:Int)<(v.length:Int) then (v.length:Int) else (u.length:Int))=(Dw u v:Int):=by unfold Dw;split<;>omega
 have a1:=ES u (by omega)
 have a2:=ES v (by omega)
 repeat (first|refine ag ?_|refine af ?_|refine ah ?_|refine ae ?_|refine bY dZ ?_)
 refine bZ bJ cZ (a1) ?_
 rintro _ rfl
 cases h1:u.any vG with
 | true =>
  have ht:IU u v=([],[]):=by unfold IU U7;rw [h1];rfl
  refine ⟨bP,_,_,_,_,_,gV,(by decide),bH,?_⟩
  repeat (first|refine ag ?_|refine dm ?_|refine af ?_|refine aO ?_|refine ak ?_|refine ah ?_|refine ae ?_|refine dV ?_|refine di ?_)
  refine gY 0 [1,4] [4] (⟨[(4,.pref 0 [] 0)],[(0,.optr [.osl 1 0 [],.osl 4 0 []])],1⟩:St) rfl rfl ?_
  refine ax ?_
  exact ⟨_,_,rfl,rfl,by rw [ht];rfl⟩
 | false =>
  refine ⟨bP,_,_,_,_,_,gV,(by decide),bH,?_⟩
  repeat (first|refine ag ?_|refine aQ ?_)
  refine bZ bJ cZ (a2) ?_
  rintro _ rfl
  cases h2:v.any vG with
  | true =>
   have ht:IU u v=([],[]):=by unfold IU U7;rw [h1,h2];rfl
   refine ⟨bP,_,_,_,_,_,gV,(by decide),bH,?_⟩
   repeat (first|refine ag ?_|refine dm ?_|refine af ?_|refine aO ?_|refine aK ?_|refine ak ?_|refine ah ?_|refine ae ?_|refine dV ?_|refine di ?_)
   refine gY 0 [1,4] [4] (⟨[(4,.pref 0 [] 0)],[(0,.optr [.osl 1 0 [],.osl 4 0 []])],1⟩:St) rfl rfl ?_
   refine ax ?_
   exact ⟨_,_,rfl,rfl,by rw [ht];rfl⟩
  | false =>
   refine ⟨bP,_,_,_,_,_,gV,(by decide),bH,?_⟩
   by_cases h3:1024<Dw u v
   ·have ht:IU u v=([],[]):=by unfold IU U7;rw [h1,h2,decide_eq_true h3];rfl
    repeat (first|refine ag ?_|refine aQ ?_|refine af ?_|refine aK ?_|refine aP ?_|refine ak ?_|refine ah ?_|refine ae ?_|refine bW ?_|refine mD (by rfl) aJ aV jK mO (by rfl) og (by rfl) oh (by (try simp (disch:=omega) only [go_sem,reduceIte,Nat.reduceEqDiff,Nat.reduceAdd,Nat.reduceMul,hmx,hmx2]);try rfl) aS (by (try simp (disch:=omega) only [go_sem,hmx,hmx2]);try rfl) aV jA ?_|refine Wp (by rfl) (by rfl) (by (try simp only [go_sem,reduceIte,hmx,hmx2]);try rfl) ?_|refine di ?_)
    refine gY 0 [1,4] [4] (⟨[(4,.pref 0 [] 0)],[(0,.optr [.osl 1 0 [],.osl 4 0 []])],1⟩:St) rfl rfl ?_
    refine ax ?_
    exact ⟨_,_,rfl,rfl,by rw [ht];rfl⟩
   ·have ht:IU u v=((List.replicate (Dw u v+1) false).set (Dw u v) true,O3 u v (Dw u v)):=by unfold IU U7;rw [h1,h2,decide_eq_false h3];rfl
    have hn1:((Dw u v:Int)+1).toNat=Dw u v+1:=by omega
    generalize hN:Dw u v=N at h3 hn1 hmx hmx2 ht
    repeat (first|refine ag ?_|refine aQ ?_|refine nY (by rfl) (by rfl) (by omega) dZ ?_|refine iw (by rfl) bT (by (try simp (disch:=omega) only [go_sem,reduceIte,Nat.reduceEqDiff,Nat.reduceAdd,Nat.reduceMul,hmx,hmx2,hn1]);try rfl) aS (by (try simp (disch:=omega) only [go_sem,hmx,hmx2,hn1]);try rfl) aJ ?_|refine af ?_|refine aK ?_|refine kP (by rfl) (by rfl) (by (try simp (disch:=omega) only [go_sem,Int.reduceAdd,Int.reduceSub,Int.reduceMul,hmx,hmx2,hn1]);try rfl) ?_|refine aP ?_|refine au ?_|refine ah ?_|refine ae ?_|refine aG ?_|refine aA ?_|refine bW ?_|refine aI ?_|refine zM (by rfl) aJ aV iO (by rfl) (by decide) bT aV aS (by (try simp (disch:=omega) only [go_sem,hmx,hmx2,hn1]);try rfl) aV ?_|refine mD (by rfl) aJ aV jK mO (by rfl) og (by rfl) oh (by (try simp (disch:=omega) only [go_sem,reduceIte,Nat.reduceEqDiff,Nat.reduceAdd,Nat.reduceMul,hmx,hmx2,hn1]);try rfl) aS (by (try simp (disch:=omega) only [go_sem,hmx,hmx2,hn1]);try rfl) aV jA ?_|refine bY dZ ?_|refine Wp (by rfl) (by rfl) (by (try simp only [go_sem,reduceIte,hmx,hmx2,hn1]);try rfl) ?_|refine Eu dZ (by rfl) (by omega) aV aV ?_|refine di ?_)
    refine gY 448 [1,4] [0,1,4,7,39,40] (⟨[(0,.sl u.length (HL.ints u)),(1,.sl v.length (HL.ints v)),(4,.pref 0 [] 0),(7,.pref 1 [] 0),(39,.int .i64 N),(40,.int .i64 0)],[(0,.optr [.nils,.nils]),(1,.optr [.osl 1 (N+1) (HL.bools ((List.replicate (N+1) false).set N true)),.osl 4 0 []])],2⟩:St) rfl rfl ?_
    refine cu [0,1,4,7,39,40] (fun k:Nat=>k<=N)
     (fun k=>⟨[(0,.sl u.length (HL.ints u)),(1,.sl v.length (HL.ints v)),(4,.pref 0 [] 0),(7,.pref 1 [] 0),(39,.int .i64 N),(40,.int .i64 k)],[(0,.optr [.nils,.nils]),(1,.optr [.osl 1 (N+1) (HL.bools ((List.replicate (N+1) false).set N true)),.osl 4 k (recs aC (O3 u v k))])],2⟩)
     (fun k=>N - k) 0 (by omega) rfl ?_
    intro k hk
    by_cases hkl:k<N
    ·have hst:=Kq (u:=u) (v:=v) (k:=k)
     have hwl:=EP (u:=u) (v:=v) (k:=k)
     have t1:=Jt u k (by omega)
     have t2:=Jt v k (by omega)
     repeat (first|refine ag ?_|refine af ?_|refine az ?_|refine ak ?_|refine ah ?_|refine ae ?_|refine aG ?_|refine aA ?_)
     refine kw [0,1,8] [] bK bK (fun _ args r=>r=.int .i64 (XM args)) (by simp [aH,HV.deep,nH]) (by simp) ?_ (by rintro _ _ _ rfl fr;exact iW)
     repeat (first|refine ag ?_|refine aY ?_|refine aI ?_)
     refine iy bJ cZ t1 ⟨_,rfl,rfl⟩ ?_
     rintro _ rfl -
     refine ⟨bP,_,_,_,_,_,gV,(by decide),bH,?_⟩
     repeat (first|refine ag ?_)
     refine iy bJ cZ t2 ⟨_,rfl,rfl⟩ ?_
     rintro _ rfl -
     refine ⟨bP,_,_,_,_,_,gV,(by decide),bH,?_⟩
     repeat (first|refine ag ?_|refine af ?_|refine kP (by rfl) (by rfl) (by (try simp (disch:=omega) only [go_sem,Int.reduceAdd,Int.reduceSub,Int.reduceMul,oK]);try rfl) ?_|refine ae ?_|refine fJ ?_|refine aI ?_|refine mD (by rfl) aJ aV jK mO (by rfl) og (by rfl) oh (by (try simp (disch:=omega) only [go_sem,reduceIte,Nat.reduceEqDiff,Nat.reduceAdd,Nat.reduceMul,oK]);try rfl) aS (by (try simp (disch:=omega) only [go_sem,oK]);try rfl) aV jA ?_|refine bQ ?_|refine lY dZ (by rfl) aJ tH (by (try simp (disch:=omega) only [go_sem,reduceIte,Nat.reduceEqDiff,Nat.reduceAdd,Nat.reduceMul,oK]);try omega) bT (by (try simp (disch:=omega) only [go_sem,reduceIte,Nat.reduceEqDiff,Nat.reduceAdd,Nat.reduceMul,oK]);try rfl) dZ (by omega) iq aS (by (try simp (disch:=omega) only [go_sem,reduceIte,Nat.reduceEqDiff,Nat.reduceAdd,Nat.reduceMul,oK]);try rfl) aV ?_|refine di ?_)
     exact dC [0,1,4,7,39,40] (k+1) hkl (by omega) (by simp only [hst,oK,hwl];rfl)
    ·obtain rfl:k=N:=by omega
     repeat (first|refine af ?_|refine az ?_|refine bF (by rfl) ?_|refine au ?_|refine ah ?_|refine ae ?_)
     refine KY aJ (by rfl) (by rfl) gV (by decide) bH ?_
     repeat (first|refine af ?_|refine dV ?_)
     refine ax ?_
     exact ⟨_,_,rfl,rfl,by rw [ht];simp only [BF,EP,List.length_set,List.length_replicate];rfl⟩
end Go.Proofs.Ytlbdmpjnmfmnfaa
