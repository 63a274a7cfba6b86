import Derived.Test.YtlbdmpjnmfmnfaaFsW
import Derived.Test.YtlbdmpjnmfmnfaaDmK
import Derived.Test.YtlbdmpjnmfmnfaaFsB
import Derived.Test.YtlbdmpjnmfmnfaaHlW
import Derived.Test.YtlbdmpjnmfmnfaaFs3
import Derived.Test.YtlbdmpjnmfmnfaaFtX
import Derived.Test.YtlbdmpjnmfmnfaaDrA
import Derived.Test.YtlbdmpjnmfmnfaaFt9
set_option linter.unusedSimpArgs false
set_option linter.unusedVariables false
set_option maxHeartbeats 8000000
section
namespace Go.Proofs.Ytlbdmpjnmfmnfaa
open Go.RowKit Go.HL Go.FS Go.MN
theorem Qi (fin:List Bool) (al:List A) (z:Int) (hb1:fin.length<=9000) (hb2:al.length<=9000) (hz : -9223372036854775808<=z/\z<=9223372036854775807) (hno:¬ (okF fin al=true/\1<=z/\z<=64)):HT Try.prog 46 [.agg (dR fin al),.int .i64 z] (Ci fin al z):=by
 have hval:=wB fin al (by omega) (by omega)
 refine HT.ofC rfl adm [4,5] rfl (bF rfl) ?_
 unfold c46
 simp only [ay,Nat.reduceAdd,dR,fU] at hval ⊢
 cases hv:okF fin al with
 | false =>
  rw [hv] at hval
  refine zF ⟨?_⟩
  refine aX aG bz (hval) ?_
  rintro _ rfl
  refine zG ⟨?_⟩
  refine zF ⟨?_⟩
  refine ae ?_
  exact ⟨_,_,rfl,rfl,Aq hno⟩
 | true =>
  rw [hv] at hval
  by_cases h1:z<1
  ·refine zF ⟨?_⟩
   refine aX aG bz (hval) ?_
   rintro _ rfl
   refine zG ⟨?_⟩
   refine zF ⟨?_⟩
   refine ae ?_
   exact ⟨_,_,rfl,rfl,Aq hno⟩
  ·have h2:64<z:=by
    rcases Int.lt_or_le 64 z with h|h
    ·exact h
    ·exact absurd ⟨hv,by omega,h⟩ hno
   refine zF ⟨?_⟩
   refine aX aG bz (hval) ?_
   rintro _ rfl
   refine zG ⟨?_⟩
   refine zF ⟨?_⟩
   refine ae ?_
   exact ⟨_,_,rfl,rfl,Aq hno⟩
theorem Oi (fin:List Bool) (al:List A) (z:Int) (hb1:fin.length<=9000) (hb2:al.length<=9000) (hz : -9223372036854775808<=z/\z<=9223372036854775807) (hno:¬ (okF fin al=true/\1<=z/\z<=64)):HT Try.prog 47 [.agg (dR fin al),.int .i64 z] (Ci fin al z):=by
 have hval:=Jh fin al (by omega) (by omega)
 refine HT.ofC rfl adG [4,5] rfl (bF rfl) ?_
 unfold c47
 simp only [ay,Nat.reduceAdd,dR,fU] at hval ⊢
 cases hv:okF fin al with
 | false =>
  rw [hv] at hval
  refine zF ⟨?_⟩
  refine aX aG bz (hval) ?_
  rintro _ rfl
  refine zG ⟨?_⟩
  refine zF ⟨?_⟩
  refine ae ?_
  exact ⟨_,_,rfl,rfl,Aq hno⟩
 | true =>
  rw [hv] at hval
  by_cases h1:z<1
  ·refine zF ⟨?_⟩
   refine aX aG bz (hval) ?_
   rintro _ rfl
   refine zG ⟨?_⟩
   refine zF ⟨?_⟩
   refine ae ?_
   exact ⟨_,_,rfl,rfl,Aq hno⟩
  ·have h2:64<z:=by
    rcases Int.lt_or_le 64 z with h|h
    ·exact h
    ·exact absurd ⟨hv,by omega,h⟩ hno
   refine zF ⟨?_⟩
   refine aX aG bz (hval) ?_
   rintro _ rfl
   refine zG ⟨?_⟩
   refine zF ⟨?_⟩
   refine ae ?_
   exact ⟨_,_,rfl,rfl,Aq hno⟩
theorem TF (d:Dz) (hv:okD d=true):HT Try.prog 48 [.agg (dC d),.agg (dC d)] (fun r=>r=.bool true):=by
 obtain ⟨h1,h2,h3,h4,h5⟩:=lD hv
 refine HT.of rfl adh (bF rfl) ?_
 unfold c48
 simp only [ay,Nat.reduceAdd,dC]
 refine zF ⟨?_⟩
 refine aF [2,3,4,5] (fun i:Nat=>i<=d.nx.length) (fun i=>⟨[(2,.pref 0 [] 0),(3,.pref 1 [] 0),(4,.bool false),(5,.int .i64 i)],[(0,.optr [.int .i64 d.sz,.sl d.nx.length (iT d.nx),.sl d.fn.length (HL.bools d.fn)]),(1,.optr [.int .i64 d.sz,.sl d.nx.length (iT d.nx),.sl d.fn.length (HL.bools d.fn)])],2⟩) (fun i=>d.nx.length - i) 0 (dS _) rfl ?_
 intro i hi
 by_cases hil:i<d.nx.length
 ·have hrow:=yK d.nx hil
  have hl:=(mO hv hil).1
  have hsi:=EJ (d.nx.getD i []) (d.nx.getD i []) (by omega) (by omega)
  rw [decide_eq_true rfl] at hsi
  generalize d.nx.getD i []=u at hrow hl hsi
  refine aU ?_
  refine aU ?_
  refine bg ?_
  refine zQ ⟨?_⟩
  refine fM (by rfl) ?_
  refine fF ?_
  refine aU ?_
  refine fD ?_
  refine aU ?_
  refine bJ aA aA (fun _ _ r=>r=.bool true) ?_
  refine fP @hrow ⟨?_⟩
  refine fG aG bz hsi ⟨_,rfl,rfl⟩ ?_
  rintro _ rfl -
  refine zG ⟨?_⟩
  refine zF ⟨?_⟩
  exact aV [2,3,4,5] (i+1) hil (by omega) rfl
 ·obtain rfl:i=d.nx.length:=by omega
  refine zF ⟨?_⟩
  refine aF [2,3,4,6] (fun i:Nat=>i<=d.fn.length) (fun i=>⟨[(2,.pref 0 [] 0),(3,.pref 1 [] 0),(4,.bool false),(6,.int .i64 i)],[(0,.optr [.int .i64 d.sz,.sl d.nx.length (iT d.nx),.sl d.fn.length (HL.bools d.fn)]),(1,.optr [.int .i64 d.sz,.sl d.nx.length (iT d.nx),.sl d.fn.length (HL.bools d.fn)])],2⟩) (fun i=>d.fn.length - i) 0 (dS _) rfl ?_
  intro i hi
  by_cases hil:i<d.fn.length
  ·have e1:=Eb hil
   generalize d.fn.getD i false=p at e1
   refine aU ?_
   refine aU ?_
   refine bg ?_
   refine zQ ⟨?_⟩
   refine fM (by rfl) ?_
   refine fF ?_
   refine aU ?_
   refine fD ?_
   refine aU ?_
   refine bJ aA aA (fun _ _ _=>False) ?_
   refine fP @e1 ⟨?_⟩
   exact aV [2,3,4,6] (i+1) hil (by omega) rfl
  ·obtain rfl:i=d.fn.length:=by omega
   refine zF ⟨?_⟩
   refine ae ?_
   rfl
theorem VF:HT Try.prog 48 [.agg [.int .i64 0,.nils,.nils],.agg [.int .i64 0,.nils,.nils]] (fun r=>r=.bool true):=by
 refine HT.of rfl adh (bF rfl) ?_
 unfold c48
 simp only [ay,Nat.reduceAdd]
 refine zF ⟨?_⟩
 refine aF [2,3,4,5] (fun _:Unit=>True) (fun _=>⟨[(2,.pref 0 [] 0),(3,.pref 1 [] 0),(4,.bool false),(5,.int .i64 0)],[(0,.optr [.int .i64 0,.nils,.nils]),(1,.optr [.int .i64 0,.nils,.nils])],2⟩) (fun _=>0) () trivial rfl ?_
 rintro _ _
 refine zF ⟨?_⟩
 refine aF [2,3,4,6] (fun _:Unit=>True) (fun _=>⟨[(2,.pref 0 [] 0),(3,.pref 1 [] 0),(4,.bool false),(6,.int .i64 0)],[(0,.optr [.int .i64 0,.nils,.nils]),(1,.optr [.int .i64 0,.nils,.nils])],2⟩) (fun _=>0) () trivial rfl ?_
 rintro _ _
 refine zF ⟨?_⟩
 refine ae ?_
 rfl
theorem aaW {d:Dz} (hv:okD d=true):HT Try.prog 85 [.agg (dC d)] (fun r=>r=.bool true):=by
 obtain ⟨h1,h2,h3,h4,h5⟩:=lD hv
 have hdv:=Jm d (by omega) (by omega) (fun r hr=>by
  obtain ⟨i,hi,rfl⟩:=uD hr
  have:=(mO hv hi).1
  simp only [bf,bn hi,fV] at this
  omega)
 rw [hv] at hdv
 exact hdv
theorem adL {d:Dz} (hv:okD d=true):∀ (k:Nat) (u:List Nat),u.length=k->(∀t∈u,t<d.sz.toNat)->MF (bK d) 0 u<d.nx.length:=by
 have ok:=vN hv
 intro k
 induction k with
 | zero=>intro u hu _;rw [gI hu];exact ok.pos
 | succ k ih =>
  intro u hu ha
  have hne:u≠[]:=fun e=>by rw [e] at hu;simp at hu
  obtain ⟨v,t,rfl⟩:∃v t,u=v++[t]:=⟨u.dropLast,u.getLast hne,(acD hne).symm⟩
  rw [CX]
  exact ok.get (ih v (by simpa using hu) fun x hx=>ha x (by simp [hx])) (ha t (by simp))
theorem Qw (d:Dz) (hv:okD d=true) (w:List Int) (hl:w.length<=100000) (hw:∀x∈w,0<=x/\x<d.sz):HT Try.prog 49 [.agg (dC d),I w] (fun r=>r=.bool (iW d (MF (bK d) 0 (w.map Int.toNat)))):=by
 obtain ⟨h1,h2,h3,h4,h5⟩:=lD hv
 refine HT.of rfl aeh (bF rfl) ?_
 unfold c49
 have hdv:=aaW hv
 simp only [I,ay,Nat.reduceAdd,dC] at hdv ⊢
 refine zF ⟨?_⟩
 refine aX aG (zW @fE) (hdv) ?_
 rintro _ rfl
 refine zG ⟨?_⟩
 refine zF ⟨?_⟩
 refine aF [2,4,5,11,12,13] (fun k:Nat=>k<=w.length)
  (fun k=>⟨[(2,.pref 0 [] 0),(4,.bool false),(5,.int .i64 (MF (bK d) 0 ((w.take k).map Int.toNat):Nat)),(11,.sl w.length (HL.ints w)),(12,.int .i64 w.length),(13,.int .i64 k)],[(0,.optr [.int .i64 d.sz,.sl d.nx.length (iT d.nx),.sl d.fn.length (HL.bools d.fn)])],1⟩)
  (fun k=>w.length - k) 0 (dS _) rfl ?_
 intro k hk
 have hgo:=adL hv _ ((w.take k).map Int.toNat) rfl (fun t ht=>by
  obtain ⟨x,hx,rfl⟩:=zl020.1 ht
  have:=hw x (FW hx);omega)
 by_cases hkl:k<w.length
 ·have hx:(HL.ints w).getD k .dead=.int .i64 (w.getD k 0):=AX hkl
  have hm:w.getD k 0∈w:=by rw [bf,bn hkl];exact iD hkl
  obtain ⟨x0,x1⟩:=hw _ hm
  have htk:(w.take (k+1)).map Int.toNat=(w.take k).map Int.toNat++[(w.getD k 0).toNat]:=by
   rw [rG,bn hkl,bf,bn hkl]
   simp only [Et,oW,dP,uG,fV]
  have hst:=CX (bK d) 0 (w.getD k 0).toNat ((w.take k).map Int.toNat)
  rw [<- htk] at hst
  generalize w.getD k 0=x at hx x0 x1 hst
  generalize MF (bK d) 0 ((w.take k).map Int.toNat)=q at hgo hst ⊢
  have hr:=mO hv hgo
  have e3:(HL.ints (d.nx.getD q [])).getD x.toNat .dead=.int .i64 ((d.nx.getD q []).getD x.toNat 0):=AX (by omega)
  have hx2:(bK d q).getD x.toNat 0=((d.nx.getD q []).getD x.toNat 0).toNat:=XL (by omega)
  have hy:=hr.2 x.toNat (by omega)
  have hrl:=hr.1
  have hrow:=yK d.nx hgo
  generalize d.nx.getD q []=row at hrow e3 hx2 hy hrl
  rw [hx2] at hst
  generalize row.getD x.toNat 0=y at e3 hst hy
  repeat (first|refine AB af rfl ?_|refine rD bP ?_|refine bg ?_|refine aU ?_|refine uk (by rfl) (by rfl) DR ?_|refine fF ?_|refine fM (by rfl) ?_|refine fO (by rfl) ?_|refine uC (by rfl) (by rfl) ?_|refine fD ?_|refine qJ (by rfl) ?_|refine og (by rfl) ?_|refine ug (by rfl) bD (by (try simp (disch:=omega) only [go_sem,reduceIte,Nat.reduceEqDiff,Nat.reduceAdd,Nat.reduceMul,hx,hrow,e3]);try rfl) az (by (try simp (disch:=omega) only [go_sem,hx,hrow,e3]);try rfl) af ?_|refine sQ (by rfl) (by rfl) (by (try simp (disch:=omega) only [go_sem,Int.reduceAdd,Int.reduceSub,Int.reduceMul,hx,hrow,e3]);try rfl) ?_|refine uS (by rfl) az (by (try simp (disch:=omega) only [go_sem,hx,hrow,e3]);try rfl) ?_|refine uz (by rfl) (by rfl) (by omega) bP ?_|refine Az ?_|refine kK (by rfl) af ?_|refine kH (by rfl) af ?_|refine xK (by rfl) (by rfl) ?_|refine xW (by rfl) (by rfl) ?_|refine uK (by rfl) (by rfl) uA ?_|refine gJ (by rfl) ?_|refine Di (by rfl) (by rfl) ?_|refine yx (by rfl) (by rfl) DR ?_|refine CE (by rfl) af ak dK (by rfl) (by decide) bD ak az (by (try simp (disch:=omega) only [go_sem,hx,hrow,e3]);try rfl) ak ?_|refine wU (by rfl) af ak jI uI (by rfl) wF (by rfl) wY (by (try simp (disch:=omega) only [go_sem,reduceIte,Nat.reduceEqDiff,Nat.reduceAdd,Nat.reduceMul,hx,hrow,e3]);try rfl) az (by (try simp (disch:=omega) only [go_sem,hx,hrow,e3]);try rfl) ak iL ?_|refine vg (by rfl) (by rfl) (by omega) bP ?_|refine nC (by rfl) ?_|refine qN bP ?_|refine jD ?_|refine sK (by rfl) az af ?_|refine oq rfl (by rfl) bP ?_|refine qR (by rfl) az (by (try simp (disch:=omega) only [go_sem,reduceIte,Nat.reduceEqDiff,Nat.reduceAdd,Nat.reduceMul,hx,hrow,e3]);try rfl) ?_|refine uX (by rfl) (by rfl) uQ ?_|refine ou (by rfl) ?_|refine pJ (by rfl) bD ak az (by decide) (by (try simp (disch:=omega) only [go_sem,reduceIte,Nat.reduceEqDiff,Nat.reduceAdd,Nat.reduceMul,hx,hrow,e3]);try rfl) dK ?_|refine qK bP (by rfl) af rU (by (try simp (disch:=omega) only [go_sem,reduceIte,Nat.reduceEqDiff,Nat.reduceAdd,Nat.reduceMul,hx,hrow,e3]);try omega) (by omega) gz ?_|refine pI bP (by rfl) af rU (by (try simp (disch:=omega) only [go_sem,reduceIte,Nat.reduceEqDiff,Nat.reduceAdd,Nat.reduceMul,hx,hrow,e3]);try omega) bD (by (try simp (disch:=omega) only [go_sem,reduceIte,Nat.reduceEqDiff,Nat.reduceAdd,Nat.reduceMul,hx,hrow,e3]);try rfl) bP (by omega) gz az (by (try simp (disch:=omega) only [go_sem,reduceIte,Nat.reduceEqDiff,Nat.reduceAdd,Nat.reduceMul,hx,hrow,e3]);try rfl) ak ?_|refine xI (by rfl) (by rfl) kM ?_|refine xH yA xZ (by simp [jM]) ?_|refine oz bP af ak dK (by rfl) ?_|refine xM (by rfl) (by rfl) (by (try simp (disch:=omega) only [go_sem,Int.reduceAdd,Int.reduceSub,Int.reduceMul,hx,hrow,e3]);try rfl) ?_|refine ni (by rfl) ?_|refine yB (by rfl) (by rfl) kM ?_|refine mY af rfl ?_|refine qM bP (by rfl) (by omega) ak ak ?_|refine xG (by rfl) (by rfl) (by (try simp (disch:=omega) only [go_sem,Int.reduceAdd,Int.reduceSub,Int.reduceMul,hx,hrow,e3]);try rfl) ?_|refine yc (by rfl) (by rfl) (by (try simp only [go_sem,reduceIte,hx,hrow,e3]);try rfl) ?_|refine ve (by rfl) (by rfl) ?_|refine uT (by rfl) (by rfl) ?_|refine mP bP (by rfl) af rU x9 bD ak bP (by omega) gz az (by (try simp (disch:=omega) only [go_sem,reduceIte,Nat.reduceEqDiff,Nat.reduceAdd,Nat.reduceMul,hx,hrow,e3]);try rfl) ak (by rfl) ?_|refine ww (by rfl) (by rfl) (by omega) (by (try simp (disch:=omega) only [go_sem,Int.reduceAdd,Int.reduceSub,Int.reduceMul,hx,hrow,e3]);try rfl) ?_|refine yD (by rfl) (by rfl) (by omega) (by (try simp (disch:=omega) only [go_sem,Int.reduceAdd,Int.reduceSub,Int.reduceMul,hx,hrow,e3]);try rfl) ?_|refine Fj (by rfl) (by rfl) (by (try simp only [go_sem,reduceIte,hx,hrow,e3]);try rfl) ?_|refine qX bP aG ak jI (by simp) (by rfl) (by rfl) (by rfl) ?_|refine qV (by rfl) (by rfl) (by rfl) (by omega) ak bP (by (try simp (disch:=omega) only [go_sem,reduceIte,Nat.reduceEqDiff,Nat.reduceAdd,Nat.reduceMul,hx,hrow,e3]);try rfl) ?_|refine iY ?_|refine mf (by rfl) (by rfl) dm af ⟨rfl,rfl⟩ (by (try simp (disch:=omega) only [go_sem,reduceIte,Nat.reduceEqDiff,Nat.reduceAdd,Nat.reduceMul,hx,hrow,e3]);try rfl) (by rfl) ?_|refine xO (by rfl) (by rfl) (by (try simp (disch:=omega) only [go_sem,Int.reduceAdd,Int.reduceSub,Int.reduceMul,hx,hrow,e3]);try rfl) ?_|refine Fq (by rfl) (by rfl) (by (try simp (disch:=omega) only [go_sem,Int.reduceAdd,Int.reduceSub,Int.reduceMul,hx,hrow,e3]);try rfl) ?_|refine yj (by rfl) (by rfl) (by (try simp (disch:=omega) only [go_sem,Int.reduceAdd,Int.reduceSub,Int.reduceMul,hx,hrow,e3]);try rfl) ?_|refine xQ (by rfl) (by rfl) (by omega) (by (try simp (disch:=omega) only [go_sem,Int.reduceAdd,Int.reduceSub,Int.reduceMul,hx,hrow,e3]);try rfl) ?_|refine yu (by rfl) (by rfl) (by omega) (by (try simp (disch:=omega) only [go_sem,Int.reduceAdd,Int.reduceSub,Int.reduceMul,hx,hrow,e3]);try rfl) ?_|refine x8 (by rfl) (by rfl) yl (by (try simp (disch:=omega) only [ng,go_sem,reduceIte,hx,hrow,e3]);try rfl) ?_|refine qY (by rfl) (by (try simp only [go_sem,reduceIte,hx,hrow,e3]);try rfl) ?_|refine wZ (by rfl) (by (try simp (disch:=omega) only [go_sem,Int.reduceAdd,Int.reduceSub,Int.reduceMul,hx,hrow,e3]);try rfl) ?_|refine qQ (by rfl) (by (try simp (disch:=omega) only [go_sem,Int.reduceAdd,Int.reduceSub,Int.reduceMul,hx,hrow,e3]);try rfl) ?_|refine xN (by rfl) af rU (by (try simp (disch:=omega) only [go_sem,reduceIte,Nat.reduceEqDiff,Nat.reduceAdd,Nat.reduceMul,hx,hrow,e3]);try omega) (by (try simp only [go_sem,reduceIte,Nat.reduceEqDiff,Nat.reduceAdd,Nat.reduceMul,hx,hrow,e3]);try rfl) (by (try simp (disch:=omega) only [go_sem,reduceIte,Nat.reduceEqDiff,Nat.reduceAdd,Nat.reduceMul,hx,hrow,e3]);try rfl) dK (by omega) bD (by (try simp (disch:=omega) only [go_sem,reduceIte,Nat.reduceEqDiff,Nat.reduceAdd,Nat.reduceMul,hx,hrow,e3]);try rfl) az (by (try simp (disch:=omega) only [go_sem,reduceIte,Nat.reduceEqDiff,Nat.reduceAdd,Nat.reduceMul,hx,hrow,e3]);try rfl) ak ?_|refine yz (by rfl) az af ?_|refine qW (by rfl) az (by (try simp (disch:=omega) only [go_sem,reduceIte,Nat.reduceEqDiff,Nat.reduceAdd,Nat.reduceMul,hx,hrow,e3]);try rfl) ?_|refine xJ bP af rfl ?_|refine qP (by rfl) ?_|refine qU (by rfl) (by omega) ?_|refine qL (by rfl) (by omega) ?_|refine mX bP ?_|refine xP (eV rfl) af ⟨rfl,rfl⟩ (by (try simp (disch:=omega) only [go_sem,reduceIte,Nat.reduceEqDiff,Nat.reduceAdd,Nat.reduceMul,hx,hrow,e3]);try rfl) (by rfl) ?_|refine yw (by rfl) af (by rfl) (by rfl) ?_|refine jY (by rfl) af af gU (by trivial) gU dm ⟨rfl,rfl⟩ (by (try simp (disch:=omega) only [go_sem,reduceIte,Nat.reduceEqDiff,Nat.reduceAdd,Nat.reduceMul,hx,hrow,e3]);try rfl) ak iL ?_|refine mJ (eV rfl) (by (try simp (disch:=omega) only [List.length_map,go_sem,reduceIte,Nat.reduceEqDiff,Nat.reduceAdd,Nat.reduceMul,hx,hrow,e3]);try rfl) ?_|refine mV (by rfl) (by rfl) dm (by (try simp (disch:=omega) only [List.length_map,go_sem,reduceIte,Nat.reduceEqDiff,Nat.reduceAdd,Nat.reduceMul,hx,hrow,e3]);try rfl) ?_|refine mM (by rfl) ?_|refine mQ (eV rfl) ?_|refine lu (by rfl) (by rfl) dm ?_|refine mZ (by rfl) ?_|refine jP af rfl ?_)
  refine aV [2,4,5,11,12,13] (k+1) hkl (by omega) ?_
  rw [hst,show ((y.toNat:Nat):Int)=y by omega]
  rfl
 ·obtain rfl:k=w.length:=by omega
  rw [ig] at hgo ⊢
  have hf:(HL.bools d.fn).getD (MF (bK d) 0 (w.map Int.toNat)) .dead=.bool (iW d (MF (bK d) 0 (w.map Int.toNat))):=by
   have:MF (bK d) 0 (w.map Int.toNat)<d.fn.length:=by omega
   simp [HL.bools,iW,this]
  generalize MF (bK d) 0 (w.map Int.toNat)=q at hgo hf ⊢
  refine fP @hf ⟨?_⟩
  refine ae ?_
  rfl
end Go.Proofs.Ytlbdmpjnmfmnfaa
end
