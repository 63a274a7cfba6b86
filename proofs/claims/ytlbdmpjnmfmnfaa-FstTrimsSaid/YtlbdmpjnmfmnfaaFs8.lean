import Derived.Test.YtlbdmpjnmfmnfaaFs7
import Derived.Test.YtlbdmpjnmfmnfaaHlMv
set_option linter.unusedSimpArgs false
set_option linter.unusedVariables false
namespace Go.Proofs.Ytlbdmpjnmfmnfaa
open Go.RowKit Go.HL Go.FS
def EI (u v:List Int):Nat:=max u.length v.length
def VB (u v:List Int):Bool:=u.any wB || v.any wB || decide (1024<EI u v)
def O7 (u v:List Int) (k:Nat):List A:=(List.range k).map fun i:Nat=>⟨i,u.getD i (-1),v.getD i (-1),(i:Int)+1⟩
def Lj (u v:List Int):List Bool×List A:=if VB u v then ([],[]) else ((List.replicate (EI u v+1) false).set (EI u v) true,O7 u v (EI u v))
theorem Ff {u v:List Int} {k:Nat}:(O7 u v k).length=k:=by simp [O7]
theorem Js {u v:List Int} {k:Nat}:O7 u v (k+1)=O7 u v k++[⟨k,u.getD k (-1),v.getD k (-1),(k:Int)+1⟩]:=by simp [O7,List.range_succ]
attribute [go_sem] List.length_replicate
def YK:List HV->Int
 | [.sl n cs,.int _ j]=>if j.toNat<n then (match cs.getD j.toNat .dead with|.int _ z=>z|_=>0) else -1
 | _=>0
theorem qj (u:List Int) (k:Nat):YK [.sl u.length (HL.ints u),.int .i64 k]=u.getD k (-1):=by
 by_cases h:k<u.length
 ·simp [YK,h,HL.ints]
 ·simp [YK,h]
theorem L6 (u:List Int) (k:Nat) (hu:u.length<=9223372036854775807):HT Try.prog 80 [.sl u.length (HL.ints u),.int .i64 k] (fun r=>r=.int .i64 (YK [.sl u.length (HL.ints u),.int .i64 k])):=by
 rw [qj];exact Ou u k hu
def DD (fin:List Bool) (al:List A):List HV:=[.osl 1 fin.length (HL.bools fin),.osl 4 al.length (recs aC al)]
set_option maxHeartbeats 8000000 in
theorem JG (u v:List Int) (hu:u.length<=4611686018427387904) (hv:v.length<=4611686018427387904):HT Try.prog 32 [.sl u.length (HL.ints u),.sl v.length (HL.ints v)] (fun r=>r=.agg (DD (Lj u v).1 (Lj u v).2)):=by
 refine HT.ofC rfl ZU [4] rfl (Nat.le_of_ble_eq_true rfl) ?_
 unfold c32
 simp only [aW,Nat.reduceAdd]
 have hmx:(if (v.length:Int)<(u.length:Int) then (u.length:Int) else (v.length:Int))=(EI u v:Int):=by unfold EI;split<;>omega
 have hmx2:(if (u.length:Int)<(v.length:Int) then (v.length:Int) else (u.length:Int))=(EI u v:Int):=by unfold EI;split<;>omega
 have a1:=FC u (by omega)
 have a2:=FC v (by omega)
 repeat (first|refine ah ?_|refine af ?_|refine au ?_|refine ae ?_|refine bG dS ?_)
 refine dG bK dh (a1) ?_
 rintro _ rfl
 cases h1:u.any wB with
 | true =>
  have ht:Lj u v=([],[]):=by unfold Lj VB;rw [h1];rfl
  refine ⟨bP,_,_,_,_,_,gU,(by decide),bJ,?_⟩
  repeat (first|refine ah ?_|refine dn ?_|refine af ?_|refine aV ?_|refine ak ?_|refine au ?_|refine ae ?_|refine cu ?_|refine bZ ?_)
  refine fF 0 [1,4] [4] (⟨[(4,.pref 0 [] 0)],[(0,.optr [.osl 1 0 [],.osl 4 0 []])],1⟩:St) rfl rfl ?_
  refine ay ?_
  exact ⟨_,_,rfl,rfl,by rw [ht];rfl⟩
 | false =>
  refine ⟨bP,_,_,_,_,_,gU,(by decide),bJ,?_⟩
  repeat (first|refine ah ?_|refine aN ?_)
  refine dG bK dh (a2) ?_
  rintro _ rfl
  cases h2:v.any wB with
  | true =>
   have ht:Lj u v=([],[]):=by unfold Lj VB;rw [h1,h2];rfl
   refine ⟨bP,_,_,_,_,_,gU,(by decide),bJ,?_⟩
   repeat (first|refine ah ?_|refine dn ?_|refine af ?_|refine aV ?_|refine aP ?_|refine ak ?_|refine au ?_|refine ae ?_|refine cu ?_|refine bZ ?_)
   refine fF 0 [1,4] [4] (⟨[(4,.pref 0 [] 0)],[(0,.optr [.osl 1 0 [],.osl 4 0 []])],1⟩:St) rfl rfl ?_
   refine ay ?_
   exact ⟨_,_,rfl,rfl,by rw [ht];rfl⟩
  | false =>
   refine ⟨bP,_,_,_,_,_,gU,(by decide),bJ,?_⟩
   by_cases h3:1024<EI u v
   ·have ht:Lj u v=([],[]):=by unfold Lj VB;rw [h1,h2,decide_eq_true h3];rfl
    repeat (first|refine ah ?_|refine aN ?_|refine af ?_|refine aP ?_|refine aI ?_|refine ak ?_|refine au ?_|refine ae ?_|refine bV ?_|refine kF (by rfl) aJ aK jy kK (by rfl) kP (by rfl) kN (by (try simp (disch:=omega) only [go_sem,reduceIte,Nat.reduceEqDiff,Nat.reduceAdd,Nat.reduceMul,hmx,hmx2]);try rfl) aG (by (try simp (disch:=omega) only [go_sem,hmx,hmx2]);try rfl) aK jc ?_|refine VX (by rfl) (by rfl) (by (try simp only [go_sem,reduceIte,hmx,hmx2]);try rfl) ?_|refine bZ ?_)
    refine fF 0 [1,4] [4] (⟨[(4,.pref 0 [] 0)],[(0,.optr [.osl 1 0 [],.osl 4 0 []])],1⟩:St) rfl rfl ?_
    refine ay ?_
    exact ⟨_,_,rfl,rfl,by rw [ht];rfl⟩
   ·have ht:Lj u v=((List.replicate (EI u v+1) false).set (EI u v) true,O7 u v (EI u v)):=by unfold Lj VB;rw [h1,h2,decide_eq_false h3];rfl
    have hn1:((EI u v:Int)+1).toNat=EI u v+1:=by omega
    generalize hN:EI u v=N at h3 hn1 hmx hmx2 ht
    repeat (first|refine ah ?_|refine aN ?_|refine dC ?_|refine dU (by rfl) bn (by (try simp (disch:=omega) only [go_sem,reduceIte,Nat.reduceEqDiff,Nat.reduceAdd,Nat.reduceMul,hmx,hmx2,hn1]);try rfl) aG (by (try simp (disch:=omega) only [go_sem,hmx,hmx2,hn1]);try rfl) aJ ?_|refine af ?_|refine aP ?_|refine gI (by rfl) (by rfl) (by (try simp (disch:=omega) only [go_sem,Int.reduceAdd,Int.reduceSub,Int.reduceMul,hmx,hmx2,hn1]);try rfl) ?_|refine aI ?_|refine ax ?_|refine au ?_|refine ae ?_|refine aA ?_|refine aF ?_|refine bV ?_|refine aB ?_|refine l9 (by rfl) aJ aK gy (by rfl) (by decide) bn aK aG (by (try simp (disch:=omega) only [go_sem,hmx,hmx2,hn1]);try rfl) aK ?_|refine kF (by rfl) aJ aK jy kK (by rfl) kP (by rfl) kN (by (try simp (disch:=omega) only [go_sem,reduceIte,Nat.reduceEqDiff,Nat.reduceAdd,Nat.reduceMul,hmx,hmx2,hn1]);try rfl) aG (by (try simp (disch:=omega) only [go_sem,hmx,hmx2,hn1]);try rfl) aK jc ?_|refine bG dS ?_|refine VX (by rfl) (by rfl) (by (try simp only [go_sem,reduceIte,hmx,hmx2,hn1]);try rfl) ?_|refine nI dS (by rfl) (by omega) aK aK ?_|refine bZ ?_)
    refine fF 448 [1,4] [0,1,4,7,39,40] (⟨[(0,.sl u.length (HL.ints u)),(1,.sl v.length (HL.ints v)),(4,.pref 0 [] 0),(7,.pref 1 [] 0),(39,.int .i64 N),(40,.int .i64 0)],[(0,.optr [.nils,.nils]),(1,.optr [.osl 1 (N+1) (HL.bools ((List.replicate (N+1) false).set N true)),.osl 4 0 []])],2⟩:St) rfl rfl ?_
    refine bW [0,1,4,7,39,40] (fun k:Nat=>k<=N)
     (fun k=>⟨[(0,.sl u.length (HL.ints u)),(1,.sl v.length (HL.ints v)),(4,.pref 0 [] 0),(7,.pref 1 [] 0),(39,.int .i64 N),(40,.int .i64 k)],[(0,.optr [.nils,.nils]),(1,.optr [.osl 1 (N+1) (HL.bools ((List.replicate (N+1) false).set N true)),.osl 4 k (recs aC (O7 u v k))])],2⟩)
     (fun k=>N - k) 0 (by omega) rfl ?_
    intro k hk
    by_cases hkl:k<N
    ·have hst:=Js (u:=u) (v:=v) (k:=k)
     have hwl:=Ff (u:=u) (v:=v) (k:=k)
     have t1:=L6 u k (by omega)
     have t2:=L6 v k (by omega)
     repeat (first|refine ah ?_|refine af ?_|refine az ?_|refine ak ?_|refine au ?_|refine ae ?_|refine aA ?_|refine aF ?_)
     refine ji [0,1,8] [] aY aY (fun _ args r=>r=.int .i64 (YK args)) (by simp [aT,HV.deep,jP]) (by simp) ?_ (by rintro _ _ _ rfl fr;exact jr)
     repeat (first|refine ah ?_|refine aU ?_|refine aB ?_)
     refine dK bK dh t1 ⟨_,rfl,rfl⟩ ?_
     rintro _ rfl -
     refine ⟨bP,_,_,_,_,_,gU,(by decide),bJ,?_⟩
     repeat (first|refine ah ?_)
     refine dK bK dh t2 ⟨_,rfl,rfl⟩ ?_
     rintro _ rfl -
     refine ⟨bP,_,_,_,_,_,gU,(by decide),bJ,?_⟩
     repeat (first|refine ah ?_|refine af ?_|refine gI (by rfl) (by rfl) (by (try simp (disch:=omega) only [go_sem,Int.reduceAdd,Int.reduceSub,Int.reduceMul,qj]);try rfl) ?_|refine ae ?_|refine dL ?_|refine aB ?_|refine kF (by rfl) aJ aK jy kK (by rfl) kP (by rfl) kN (by (try simp (disch:=omega) only [go_sem,reduceIte,Nat.reduceEqDiff,Nat.reduceAdd,Nat.reduceMul,qj]);try rfl) aG (by (try simp (disch:=omega) only [go_sem,qj]);try rfl) aK jc ?_|refine bU ?_|refine kT dS (by rfl) aJ rD (by (try simp (disch:=omega) only [go_sem,reduceIte,Nat.reduceEqDiff,Nat.reduceAdd,Nat.reduceMul,qj]);try omega) bn (by (try simp (disch:=omega) only [go_sem,reduceIte,Nat.reduceEqDiff,Nat.reduceAdd,Nat.reduceMul,qj]);try rfl) dS (by omega) iH aG (by (try simp (disch:=omega) only [go_sem,reduceIte,Nat.reduceEqDiff,Nat.reduceAdd,Nat.reduceMul,qj]);try rfl) aK ?_|refine bZ ?_)
     exact dm [0,1,4,7,39,40] (k+1) hkl (by omega) (by simp only [hst,qj,hwl];rfl)
    ·obtain rfl:k=N:=by omega
     repeat (first|refine af ?_|refine az ?_|refine bQ (by rfl) ?_|refine ax ?_|refine au ?_|refine ae ?_)
     refine KE aJ (by rfl) (by rfl) gU (by decide) bJ ?_
     repeat (first|refine af ?_|refine cu ?_)
     refine ay ?_
     exact ⟨_,_,rfl,rfl,by rw [ht];simp only [DD,Ff,List.length_set,List.length_replicate];rfl⟩
end Go.Proofs.Ytlbdmpjnmfmnfaa
