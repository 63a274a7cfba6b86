import Derived.Test.YtlbdmpjnmfmnfaaFs7
import Derived.Test.YtlbdmpjnmfmnfaaHlMv
set_option linter.unusedSimpArgs false
set_option linter.unusedVariables false
namespace Go.Proofs.Ytlbdmpjnmfmnfaa
open Go.RowKit Go.HL Go.FS
def Ei (u v:List Int):Nat:=max u.length v.length
def Xd (u v:List Int):Bool:=u.any xR || v.any xR || decide (1024<Ei u v)
def PD (u v:List Int) (k:Nat):List A:=(List.range k).map fun i:Nat=>⟨i,u.getD i (-1),v.getD i (-1),(i:Int)+1⟩
def JE (u v:List Int):List Bool×List A:=if Xd u v then ([],[]) else ((List.replicate (Ei u v+1) false).set (Ei u v) true,PD u v (Ei u v))
theorem Gs {u v:List Int} {k:Nat}:(PD u v k).length=k:=by simp [PD]
theorem LK {u v:List Int} {k:Nat}:PD u v (k+1)=PD u v k++[⟨k,u.getD k (-1),v.getD k (-1),(k:Int)+1⟩]:=by simp [PD,List.range_succ]
attribute [go_sem] List.length_replicate
def Xa:List HV->Int
 | [.sl n cs,.int _ j]=>if j.toNat<n then (match cs.getD j.toNat .dead with|.int _ z=>z|_=>0) else -1
 | _=>0
theorem qw (u:List Int) (k:Nat):Xa [.sl u.length (HL.ints u),.int .i64 k]=u.getD k (-1):=by
 by_cases h:k<u.length
 ·simp [Xa,h,HL.ints]
 ·simp [Xa,h]
theorem LV (u:List Int) (k:Nat) (hu:u.length<=9223372036854775807):HT Try.prog 80 [.sl u.length (HL.ints u),.int .i64 k] (fun r=>r=.int .i64 (Xa [.sl u.length (HL.ints u),.int .i64 k])):=by
 rw [qw];exact OB u k hu
def D5 (fin:List Bool) (al:List A):List HV:=[.osl 1 fin.length (HL.bools fin),.osl 4 al.length (recs aC al)]
set_option maxHeartbeats 8000000 in
theorem Js (u v:List Int) (hu:u.length<=4611686018427387904) (hv:v.length<=4611686018427387904):HT Try.prog 32 [.sl u.length (HL.ints u),.sl v.length (HL.ints v)] (fun r=>r=.agg (D5 (JE u v).1 (JE u v).2)):=by
 refine HT.ofC rfl abf [4] rfl (Nat.le_of_ble_eq_true rfl) ?_
 unfold c32
 simp only [aX,Nat.reduceAdd]
 have hmx:(if (v.length:Int)<(u.length:Int) then (u.length:Int) else (v.length:Int))=(Ei u v:Int):=by unfold Ei;split<;>omega
 have hmx2:(if (u.length:Int)<(v.length:Int) then (v.length:Int) else (u.length:Int))=(Ei u v:Int):=by unfold Ei;split<;>omega
 have a1:=Fv u (by omega)
 have a2:=Fv v (by omega)
 repeat (first|refine ah ?_|refine af ?_|refine au ?_|refine ae ?_|refine bV dN ?_)
 refine dF bW dm (a1) ?_
 rintro _ rfl
 cases h1:u.any xR with
 | true =>
  have ht:JE u v=([],[]):=by unfold JE Xd;rw [h1];rfl
  refine ⟨cO,_,_,_,_,_,gY,(by decide),bT,?_⟩
  repeat (first|refine ah ?_|refine cu ?_|refine af ?_|refine aK ?_|refine ak ?_|refine au ?_|refine ae ?_|refine dw ?_|refine dA ?_)
  refine gQ 0 [1,4] [4] (⟨[(4,.pref 0 [] 0)],[(0,.optr [.osl 1 0 [],.osl 4 0 []])],1⟩:St) rfl rfl ?_
  refine az ?_
  exact ⟨_,_,rfl,rfl,by rw [ht];rfl⟩
 | false =>
  refine ⟨cO,_,_,_,_,_,gY,(by decide),bT,?_⟩
  repeat (first|refine ah ?_|refine aO ?_)
  refine dF bW dm (a2) ?_
  rintro _ rfl
  cases h2:v.any xR with
  | true =>
   have ht:JE u v=([],[]):=by unfold JE Xd;rw [h1,h2];rfl
   refine ⟨cO,_,_,_,_,_,gY,(by decide),bT,?_⟩
   repeat (first|refine ah ?_|refine cu ?_|refine af ?_|refine aK ?_|refine aN ?_|refine ak ?_|refine au ?_|refine ae ?_|refine dw ?_|refine dA ?_)
   refine gQ 0 [1,4] [4] (⟨[(4,.pref 0 [] 0)],[(0,.optr [.osl 1 0 [],.osl 4 0 []])],1⟩:St) rfl rfl ?_
   refine az ?_
   exact ⟨_,_,rfl,rfl,by rw [ht];rfl⟩
  | false =>
   refine ⟨cO,_,_,_,_,_,gY,(by decide),bT,?_⟩
   by_cases h3:1024<Ei u v
   ·have ht:JE u v=([],[]):=by unfold JE Xd;rw [h1,h2,decide_eq_true h3];rfl
    repeat (first|refine ah ?_|refine aO ?_|refine af ?_|refine aN ?_|refine aB ?_|refine ak ?_|refine au ?_|refine ae ?_|refine bI ?_|refine kG (by rfl) aQ aI iU kF (by rfl) kZ (by rfl) lh (by (try simp (disch:=omega) only [go_sem,reduceIte,Nat.reduceEqDiff,Nat.reduceAdd,Nat.reduceMul,hmx,hmx2]);try rfl) aG (by (try simp (disch:=omega) only [go_sem,hmx,hmx2]);try rfl) aI ji ?_|refine OE (by rfl) (by rfl) (by (try simp only [go_sem,reduceIte,hmx,hmx2]);try rfl) ?_|refine dA ?_)
    refine gQ 0 [1,4] [4] (⟨[(4,.pref 0 [] 0)],[(0,.optr [.osl 1 0 [],.osl 4 0 []])],1⟩:St) rfl rfl ?_
    refine az ?_
    exact ⟨_,_,rfl,rfl,by rw [ht];rfl⟩
   ·have ht:JE u v=((List.replicate (Ei u v+1) false).set (Ei u v) true,PD u v (Ei u v)):=by unfold JE Xd;rw [h1,h2,decide_eq_false h3];rfl
    have hn1:((Ei u v:Int)+1).toNat=Ei u v+1:=by omega
    generalize hN:Ei u v=N at h3 hn1 hmx hmx2 ht
    repeat (first|refine ah ?_|refine aO ?_|refine cZ ?_|refine dK (by rfl) aW (by (try simp (disch:=omega) only [go_sem,reduceIte,Nat.reduceEqDiff,Nat.reduceAdd,Nat.reduceMul,hmx,hmx2,hn1]);try rfl) aG (by (try simp (disch:=omega) only [go_sem,hmx,hmx2,hn1]);try rfl) aQ ?_|refine af ?_|refine aN ?_|refine eU (by rfl) (by rfl) (by (try simp (disch:=omega) only [go_sem,Int.reduceAdd,Int.reduceSub,Int.reduceMul,hmx,hmx2,hn1]);try rfl) ?_|refine aB ?_|refine ax ?_|refine au ?_|refine ae ?_|refine aA ?_|refine aH ?_|refine bI ?_|refine aF ?_|refine kN (by rfl) aQ aI fH (by rfl) (by decide) aW aI aG (by (try simp (disch:=omega) only [go_sem,hmx,hmx2,hn1]);try rfl) aI ?_|refine kG (by rfl) aQ aI iU kF (by rfl) kZ (by rfl) lh (by (try simp (disch:=omega) only [go_sem,reduceIte,Nat.reduceEqDiff,Nat.reduceAdd,Nat.reduceMul,hmx,hmx2,hn1]);try rfl) aG (by (try simp (disch:=omega) only [go_sem,hmx,hmx2,hn1]);try rfl) aI ji ?_|refine bV dN ?_|refine OE (by rfl) (by rfl) (by (try simp only [go_sem,reduceIte,hmx,hmx2,hn1]);try rfl) ?_|refine lF dN (by rfl) (by omega) aI aI ?_|refine dA ?_)
    refine gQ 448 [1,4] [0,1,4,7,39,40] (⟨[(0,.sl u.length (HL.ints u)),(1,.sl v.length (HL.ints v)),(4,.pref 0 [] 0),(7,.pref 1 [] 0),(39,.int .i64 N),(40,.int .i64 0)],[(0,.optr [.nils,.nils]),(1,.optr [.osl 1 (N+1) (HL.bools ((List.replicate (N+1) false).set N true)),.osl 4 0 []])],2⟩:St) rfl rfl ?_
    refine bQ [0,1,4,7,39,40] (fun k:Nat=>k<=N)
     (fun k=>⟨[(0,.sl u.length (HL.ints u)),(1,.sl v.length (HL.ints v)),(4,.pref 0 [] 0),(7,.pref 1 [] 0),(39,.int .i64 N),(40,.int .i64 k)],[(0,.optr [.nils,.nils]),(1,.optr [.osl 1 (N+1) (HL.bools ((List.replicate (N+1) false).set N true)),.osl 4 k (recs aC (PD u v k))])],2⟩)
     (fun k=>N - k) 0 (by omega) rfl ?_
    intro k hk
    by_cases hkl:k<N
    ·have hst:=LK (u:=u) (v:=v) (k:=k)
     have hwl:=Gs (u:=u) (v:=v) (k:=k)
     have t1:=LV u k (by omega)
     have t2:=LV v k (by omega)
     repeat (first|refine ah ?_|refine af ?_|refine ay ?_|refine ak ?_|refine au ?_|refine ae ?_|refine aA ?_|refine aH ?_)
     refine iV [0,1,8] [] bu bu (fun _ args r=>r=.int .i64 (Xa args)) (by simp [aV,HV.deep,kK]) (by simp) ?_ (by rintro _ _ _ rfl fr;exact jo)
     repeat (first|refine ah ?_|refine aS ?_|refine aF ?_)
     refine fD bW dm t1 ⟨_,rfl,rfl⟩ ?_
     rintro _ rfl -
     refine ⟨cO,_,_,_,_,_,gY,(by decide),bT,?_⟩
     repeat (first|refine ah ?_)
     refine fD bW dm t2 ⟨_,rfl,rfl⟩ ?_
     rintro _ rfl -
     refine ⟨cO,_,_,_,_,_,gY,(by decide),bT,?_⟩
     repeat (first|refine ah ?_|refine af ?_|refine eU (by rfl) (by rfl) (by (try simp (disch:=omega) only [go_sem,Int.reduceAdd,Int.reduceSub,Int.reduceMul,qw]);try rfl) ?_|refine ae ?_|refine dH ?_|refine aF ?_|refine kG (by rfl) aQ aI iU kF (by rfl) kZ (by rfl) lh (by (try simp (disch:=omega) only [go_sem,reduceIte,Nat.reduceEqDiff,Nat.reduceAdd,Nat.reduceMul,qw]);try rfl) aG (by (try simp (disch:=omega) only [go_sem,qw]);try rfl) aI ji ?_|refine bP ?_|refine iL dN (by rfl) aQ l7 (by (try simp (disch:=omega) only [go_sem,reduceIte,Nat.reduceEqDiff,Nat.reduceAdd,Nat.reduceMul,qw]);try omega) aW (by (try simp (disch:=omega) only [go_sem,reduceIte,Nat.reduceEqDiff,Nat.reduceAdd,Nat.reduceMul,qw]);try rfl) dN (by omega) fQ aG (by (try simp (disch:=omega) only [go_sem,reduceIte,Nat.reduceEqDiff,Nat.reduceAdd,Nat.reduceMul,qw]);try rfl) aI ?_|refine dA ?_)
     exact bZ [0,1,4,7,39,40] (k+1) hkl (by omega) (by simp only [hst,qw,hwl];rfl)
    ·obtain rfl:k=N:=by omega
     repeat (first|refine af ?_|refine ay ?_|refine bC (by rfl) ?_|refine ax ?_|refine au ?_|refine ae ?_)
     refine JX aQ (by rfl) (by rfl) gY (by decide) bT ?_
     repeat (first|refine af ?_|refine dw ?_)
     refine az ?_
     exact ⟨_,_,rfl,rfl,by rw [ht];simp only [D5,Gs,List.length_set,List.length_replicate];rfl⟩
end Go.Proofs.Ytlbdmpjnmfmnfaa
