import Derived.Test.YtlbdmpjnmfmnfaaFs7
import Derived.Test.YtlbdmpjnmfmnfaaHlMv
set_option linter.unusedSimpArgs false
set_option linter.unusedVariables false
namespace Go.Proofs.Ytlbdmpjnmfmnfaa
open Go.RowKit Go.HL Go.FS
def Cf (u v:List Int):Nat:=max u.length v.length
def Wi (u v:List Int):Bool:=u.any vI || v.any vI || decide (1024<Cf u v)
def NK (u v:List Int) (k:Nat):List A:=(List.range k).map fun i:Nat=>⟨i,u.getD i (-1),v.getD i (-1),(i:Int)+1⟩
def I7 (u v:List Int):List Bool×List A:=if Wi u v then ([],[]) else ((List.replicate (Cf u v+1) false).set (Cf u v) true,NK u v (Cf u v))
theorem Es {u v:List Int} {k:Nat}:(NK u v k).length=k:=by simp [NK]
theorem Iu {u v:List Int} {k:Nat}:NK u v (k+1)=NK u v k++[⟨k,u.getD k (-1),v.getD k (-1),(k:Int)+1⟩]:=by simp [NK,List.range_succ]
attribute [go_sem] List.length_replicate
def Vl:List HV->Int
 | [.sl n cs,.int _ j]=>if j.toNat<n then (match cs.getD j.toNat .dead with|.int _ z=>z|_=>0) else -1
 | _=>0
theorem oQ (u:List Int) (k:Nat):Vl [.sl u.length (HL.ints u),.int .i64 k]=u.getD k (-1):=by
 by_cases h:k<u.length
 ·simp [Vl,h,HL.ints]
 ·simp [Vl,h]
theorem J9 (u:List Int) (k:Nat) (hu:u.length<=9223372036854775807):HT Try.prog 80 [.sl u.length (HL.ints u),.int .i64 k] (fun r=>r=.int .i64 (Vl [.sl u.length (HL.ints u),.int .i64 k])):=by
 rw [oQ];exact KO u k hu
def Di (fin:List Bool) (al:List A):List HV:=[.osl 1 fin.length (HL.bools fin),.osl 4 al.length (recs aC al)]
set_option maxHeartbeats 8000000 in
theorem Io (u v:List Int) (hu:u.length<=4611686018427387904) (hv:v.length<=4611686018427387904):HT Try.prog 32 [.sl u.length (HL.ints u),.sl v.length (HL.ints v)] (fun r=>r=.agg (Di (I7 u v).1 (I7 u v).2)):=by
 refine HT.ofC rfl Xx [4] rfl (Nat.le_of_ble_eq_true rfl) ?_
 unfold c32
 simp only [aS,Nat.reduceAdd]
 have hmx:(if (v.length:Int)<(u.length:Int) then (u.length:Int) else (v.length:Int))=(Cf u v:Int):=by unfold Cf;split<;>omega
 have hmx2:(if (u.length:Int)<(v.length:Int) then (v.length:Int) else (u.length:Int))=(Cf u v:Int):=by unfold Cf;split<;>omega
 have a1:=Ec u (by omega)
 have a2:=Ec v (by omega)
 repeat (first|refine ag ?_|refine af ?_|refine ah ?_|refine ae ?_|refine bP dI ?_)
 refine bI bD cO (a1) ?_
 rintro _ rfl
 cases h1:u.any vI with
 | true =>
  have ht:I7 u v=([],[]):=by unfold I7 Wi;rw [h1];rfl
  refine ⟨bF,_,_,_,_,_,gq,(by decide),bC,?_⟩
  repeat (first|refine ag ?_|refine bV ?_|refine af ?_|refine aN ?_|refine au ?_|refine ah ?_|refine ae ?_|refine dZ ?_|refine cZ ?_)
  refine gV 0 [1,4] [4] (⟨[(4,.pref 0 [] 0)],[(0,.optr [.osl 1 0 [],.osl 4 0 []])],1⟩:St) rfl rfl ?_
  refine ax ?_
  exact ⟨_,_,rfl,rfl,by rw [ht];rfl⟩
 | false =>
  refine ⟨bF,_,_,_,_,_,gq,(by decide),bC,?_⟩
  repeat (first|refine ag ?_|refine aK ?_)
  refine bI bD cO (a2) ?_
  rintro _ rfl
  cases h2:v.any vI with
  | true =>
   have ht:I7 u v=([],[]):=by unfold I7 Wi;rw [h1,h2];rfl
   refine ⟨bF,_,_,_,_,_,gq,(by decide),bC,?_⟩
   repeat (first|refine ag ?_|refine bV ?_|refine af ?_|refine aN ?_|refine aI ?_|refine au ?_|refine ah ?_|refine ae ?_|refine dZ ?_|refine cZ ?_)
   refine gV 0 [1,4] [4] (⟨[(4,.pref 0 [] 0)],[(0,.optr [.osl 1 0 [],.osl 4 0 []])],1⟩:St) rfl rfl ?_
   refine ax ?_
   exact ⟨_,_,rfl,rfl,by rw [ht];rfl⟩
  | false =>
   refine ⟨bF,_,_,_,_,_,gq,(by decide),bC,?_⟩
   by_cases h3:1024<Cf u v
   ·have ht:I7 u v=([],[]):=by unfold I7 Wi;rw [h1,h2,decide_eq_true h3];rfl
    repeat (first|refine ag ?_|refine aK ?_|refine af ?_|refine aI ?_|refine bY (by rfl) ?_|refine au ?_|refine ah ?_|refine ae ?_|refine bU ?_|refine mi (by rfl) aO aQ jJ mP (by rfl) nX (by rfl) nV (by (try simp (disch:=omega) only [go_sem,reduceIte,Nat.reduceEqDiff,Nat.reduceAdd,Nat.reduceMul,hmx,hmx2]);try rfl) aT (by (try simp (disch:=omega) only [go_sem,hmx,hmx2]);try rfl) aQ jq ?_|refine Ur (by rfl) (by rfl) (by (try simp only [go_sem,reduceIte,hmx,hmx2]);try rfl) ?_|refine cZ ?_)
    refine gV 0 [1,4] [4] (⟨[(4,.pref 0 [] 0)],[(0,.optr [.osl 1 0 [],.osl 4 0 []])],1⟩:St) rfl rfl ?_
    refine ax ?_
    exact ⟨_,_,rfl,rfl,by rw [ht];rfl⟩
   ·have ht:I7 u v=((List.replicate (Cf u v+1) false).set (Cf u v) true,NK u v (Cf u v)):=by unfold I7 Wi;rw [h1,h2,decide_eq_false h3];rfl
    have hn1:((Cf u v:Int)+1).toNat=Cf u v+1:=by omega
    generalize hN:Cf u v=N at h3 hn1 hmx hmx2 ht
    repeat (first|refine ag ?_|refine aK ?_|refine nT (by rfl) (by rfl) (by omega) dI ?_|refine iq (by rfl) bH (by (try simp (disch:=omega) only [go_sem,reduceIte,Nat.reduceEqDiff,Nat.reduceAdd,Nat.reduceMul,hmx,hmx2,hn1]);try rfl) aT (by (try simp (disch:=omega) only [go_sem,hmx,hmx2,hn1]);try rfl) aO ?_|refine af ?_|refine aI ?_|refine jI (by rfl) (by rfl) (by (try simp (disch:=omega) only [go_sem,Int.reduceAdd,Int.reduceSub,Int.reduceMul,hmx,hmx2,hn1]);try rfl) ?_|refine bY (by rfl) ?_|refine ak ?_|refine ah ?_|refine ae ?_|refine aH ?_|refine aF ?_|refine bU ?_|refine aJ ?_|refine yV (by rfl) aO aQ iH (by rfl) (by decide) bH aQ aT (by (try simp (disch:=omega) only [go_sem,hmx,hmx2,hn1]);try rfl) aQ ?_|refine mi (by rfl) aO aQ jJ mP (by rfl) nX (by rfl) nV (by (try simp (disch:=omega) only [go_sem,reduceIte,Nat.reduceEqDiff,Nat.reduceAdd,Nat.reduceMul,hmx,hmx2,hn1]);try rfl) aT (by (try simp (disch:=omega) only [go_sem,hmx,hmx2,hn1]);try rfl) aQ jq ?_|refine bP dI ?_|refine Ur (by rfl) (by rfl) (by (try simp only [go_sem,reduceIte,hmx,hmx2,hn1]);try rfl) ?_|refine Dy dI (by rfl) (by omega) aQ aQ ?_|refine cZ ?_)
    refine gV 448 [1,4] [0,1,4,7,39,40] (⟨[(0,.sl u.length (HL.ints u)),(1,.sl v.length (HL.ints v)),(4,.pref 0 [] 0),(7,.pref 1 [] 0),(39,.int .i64 N),(40,.int .i64 0)],[(0,.optr [.nils,.nils]),(1,.optr [.osl 1 (N+1) (HL.bools ((List.replicate (N+1) false).set N true)),.osl 4 0 []])],2⟩:St) rfl rfl ?_
    refine cu [0,1,4,7,39,40] (fun k:Nat=>k<=N)
     (fun k=>⟨[(0,.sl u.length (HL.ints u)),(1,.sl v.length (HL.ints v)),(4,.pref 0 [] 0),(7,.pref 1 [] 0),(39,.int .i64 N),(40,.int .i64 k)],[(0,.optr [.nils,.nils]),(1,.optr [.osl 1 (N+1) (HL.bools ((List.replicate (N+1) false).set N true)),.osl 4 k (recs aC (NK u v k))])],2⟩)
     (fun k=>N - k) 0 (by omega) rfl ?_
    intro k hk
    by_cases hkl:k<N
    ·have hst:=Iu (u:=u) (v:=v) (k:=k)
     have hwl:=Es (u:=u) (v:=v) (k:=k)
     have t1:=J9 u k (by omega)
     have t2:=J9 v k (by omega)
     repeat (first|refine ag ?_|refine af ?_|refine az ?_|refine au ?_|refine ah ?_|refine ae ?_|refine aH ?_|refine aF ?_)
     refine kE [0,1,8] [] bM bM (fun _ args r=>r=.int .i64 (Vl args)) (by simp [aG,HV.deep,nN]) (by simp) ?_ (by rintro _ _ _ rfl fr;exact iO)
     repeat (first|refine ag ?_|refine aV ?_|refine aJ ?_)
     refine gZ bD cO t1 ⟨_,rfl,rfl⟩ ?_
     rintro _ rfl -
     refine ⟨bF,_,_,_,_,_,gq,(by decide),bC,?_⟩
     repeat (first|refine ag ?_)
     refine gZ bD cO t2 ⟨_,rfl,rfl⟩ ?_
     rintro _ rfl -
     refine ⟨bF,_,_,_,_,_,gq,(by decide),bC,?_⟩
     repeat (first|refine ag ?_|refine af ?_|refine jI (by rfl) (by rfl) (by (try simp (disch:=omega) only [go_sem,Int.reduceAdd,Int.reduceSub,Int.reduceMul,oQ]);try rfl) ?_|refine ae ?_|refine fE ?_|refine aJ ?_|refine mi (by rfl) aO aQ jJ mP (by rfl) nX (by rfl) nV (by (try simp (disch:=omega) only [go_sem,reduceIte,Nat.reduceEqDiff,Nat.reduceAdd,Nat.reduceMul,oQ]);try rfl) aT (by (try simp (disch:=omega) only [go_sem,oQ]);try rfl) aQ jq ?_|refine bW ?_|refine lW dI (by rfl) aO rE (by (try simp (disch:=omega) only [go_sem,reduceIte,Nat.reduceEqDiff,Nat.reduceAdd,Nat.reduceMul,oQ]);try omega) bH (by (try simp (disch:=omega) only [go_sem,reduceIte,Nat.reduceEqDiff,Nat.reduceAdd,Nat.reduceMul,oQ]);try rfl) dI (by omega) gX aT (by (try simp (disch:=omega) only [go_sem,reduceIte,Nat.reduceEqDiff,Nat.reduceAdd,Nat.reduceMul,oQ]);try rfl) aQ ?_|refine cZ ?_)
     exact dm [0,1,4,7,39,40] (k+1) hkl (by omega) (by simp only [hst,oQ,hwl];rfl)
    ·obtain rfl:k=N:=by omega
     repeat (first|refine af ?_|refine az ?_|refine bK (by rfl) ?_|refine ak ?_|refine ah ?_|refine ae ?_)
     refine IQ aO (by rfl) (by rfl) gq (by decide) bC ?_
     repeat (first|refine af ?_|refine dZ ?_)
     refine ax ?_
     exact ⟨_,_,rfl,rfl,by rw [ht];simp only [Di,Es,List.length_set,List.length_replicate];rfl⟩
end Go.Proofs.Ytlbdmpjnmfmnfaa
