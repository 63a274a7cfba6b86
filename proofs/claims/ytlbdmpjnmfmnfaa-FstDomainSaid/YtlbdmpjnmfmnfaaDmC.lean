import Derived.Test.YtlbdmpjnmfmnfaaDrA
import Derived.Test.YtlbdmpjnmfmnfaaHlW
import Derived.Test.YtlbdmpjnmfmnfaaFtX
set_option linter.unusedSimpArgs false
set_option linter.unusedVariables false
set_option maxHeartbeats 16000000
section
namespace Go.Proofs.Ytlbdmpjnmfmnfaa
open Go.RowKit Go.HL Go.FS Go.MN
theorem QT {kk:List HI} {rs:List Nat} {Kp:HV->Prop} {xc:HCode} [hp:Plain kk] (fin:List Bool) (al:List A) (sz:Int) (M:List (List Bool)) (row:List Nat) (R:List (List Nat)) (F:List Bool) (i s:Nat) (z:Bool) (c:List Bool) (hcl:c.length=fin.length) (hM:∀b∈M,b.length=fin.length) (hMl:M.length<=1024) (hn:fin.length<=10) (y:Nat) (hy:if c∈M then y=ix M c else y=M.length)
  (h:hx Try.prog (.c xc::kk) (finish rs Kp) ⟨[(1,.int .i64 sz),(2,.ptr [.sl fin.length (HL.bools fin),.sl al.length (recs aC al)] 0),(4,.pref 0 [] 0),(7,.ref 1 [] 1 0 M.length),(8,.pref 2 [] 0),(9,.int .i64 (i:Nat)),(10,.ref 3 [] 1 0 row.length),(11,.bool z),(13,.int .i64 (s:Nat)),(14,.ref 4 [] 1 0 fin.length),(17,.int .i64 (y:Nat))],[(0,.optr [.int .i64 0,.nils,.nils]),(1,.osl 1 M.length (bO fin.length M)),(2,.optr [.int .i64 sz,.osl 1 R.length (iO (rI R)),.osl 1 F.length (HL.bools F)]),(3,.osl 1 row.length (HL.ints (nI row))),(4,.osl 1 fin.length (HL.bools c))],5⟩):hx Try.prog (.c (.loop Wv)::.b 8::.c xc::kk) (finish rs Kp) ⟨[(1,.int .i64 sz),(2,.ptr [.sl fin.length (HL.bools fin),.sl al.length (recs aC al)] 0),(4,.pref 0 [] 0),(7,.ref 1 [] 1 0 M.length),(8,.pref 2 [] 0),(9,.int .i64 (i:Nat)),(10,.ref 3 [] 1 0 row.length),(11,.bool z),(13,.int .i64 (s:Nat)),(14,.ref 4 [] 1 0 fin.length),(17,.int .i64 (0:Nat))],[(0,.optr [.int .i64 0,.nils,.nils]),(1,.osl 1 M.length (bO fin.length M)),(2,.optr [.int .i64 sz,.osl 1 R.length (iO (rI R)),.osl 1 F.length (HL.bools F)]),(3,.osl 1 row.length (HL.ints (nI row))),(4,.osl 1 fin.length (HL.bools c))],5⟩:=by
 refine aF [1,2,4,7,8,9,10,11,13,14,17] (fun k:Nat=>k<=M.length/\∀j,j<k->M.getD j default≠c) (fun k=>⟨[(1,.int .i64 sz),(2,.ptr [.sl fin.length (HL.bools fin),.sl al.length (recs aC al)] 0),(4,.pref 0 [] 0),(7,.ref 1 [] 1 0 M.length),(8,.pref 2 [] 0),(9,.int .i64 (i:Nat)),(10,.ref 3 [] 1 0 row.length),(11,.bool z),(13,.int .i64 (s:Nat)),(14,.ref 4 [] 1 0 fin.length),(17,.int .i64 (k:Nat))],[(0,.optr [.int .i64 0,.nils,.nils]),(1,.osl 1 M.length (bO fin.length M)),(2,.optr [.int .i64 sz,.osl 1 R.length (iO (rI R)),.osl 1 F.length (HL.bools F)]),(3,.osl 1 row.length (HL.ints (nI row))),(4,.osl 1 fin.length (HL.bools c))],5⟩) (fun k=>M.length - k) 0 ⟨dS _,fun j hj=>absurd hj (Dn j)⟩ rfl ?_
 rintro k ⟨hk,hno⟩
 by_cases hkl:k<M.length
 ·have hget:=PR (n:=fin.length) hkl
  have hbl:(M.getD k default).length=fin.length:=hM _ (by rw [bf,bn hkl];exact iD hkl)
  have hwb:win (HL.bools (M.getD k default)) 0 fin.length=HL.bools (M.getD k default):=dw _ (by rw [HL.bools_len,hbl])
  have hss:=QA fin.length (M.getD k default) c (by omega) hbl hcl
  have hfi:=ZO (c:=c) hkl hno
  by_cases e:M.getD k default=c
  ·rw [decide_eq_true e] at hss
   obtain ⟨g1,g2⟩:=hfi e
   rw [if_pos g1,g2] at hy
   subst hy
   generalize M.getD y default=b at hget hss hwb
   refine fP @hget ⟨?_⟩
   refine aX aG (zW (zA @hget @hwb)) (hss) ?_
   rintro _ rfl
   refine zG ⟨?_⟩
   refine zF ⟨?_⟩
   exact bV [1,2,4,7,8,9,10,11,13,14,17] _ rfl h
  ·rw [decide_eq_false e] at hss
   have hstep:∀j,j<k+1->M.getD j default≠c:=fun j hj=>by
    by_cases q:j=k
    ·subst q;exact e
    ·exact hno j (by omega)
   generalize M.getD k default=b at hget hss hwb
   refine fP @hget ⟨?_⟩
   refine aX aG (zW (zA @hget @hwb)) (hss) ?_
   rintro _ rfl
   refine zG ⟨?_⟩
   refine zF ⟨?_⟩
   exact aV [1,2,4,7,8,9,10,11,13,14,17] (k+1) ⟨hkl,hstep⟩ (by omega) rfl
 ·obtain rfl:k=M.length:=by omega
  rw [if_neg (ZW hno)] at hy
  subst hy
  refine zF ⟨?_⟩
  exact bV [1,2,4,7,8,9,10,11,13,14,17] _ rfl h
theorem aaf {d:Dz} {c:Nat->Nat} {a b:Nat}:sig (bK d) (iW d) c a=sig (bK d) (iW d) c b <-> c a=c b/\iW d a=iW d b/\(bK d a).map c=(bK d b).map c:=by simp [sig]
theorem WN {f g:Nat->Nat} {l m:List Nat} (hl:l.length=m.length):l.map f=m.map g <-> ∀s,s<l.length->f (l.getD s 0)=g (m.getD s 0):=by
 constructor
 ·intro h s hs
  have:=congrArg (fun q:List Nat=>q[s]?) h
  simp only [fZ,bn hs,bn (show s<m.length by omega),gV,bT] at this
  simpa [hs,show s<m.length by omega] using this
 ·intro h
  apply qE
  ·simpa using hl
  ·intro s h1 h2
   have:=h s (by simpa using h1)
   have a1:s<l.length:=by simpa using h1
   have a2:s<m.length:=by omega
   simpa [a1,a2] using this
theorem Vy (d:Dz) (hv:okD d=true) (c:Nat->Nat) (a b:Nat) (ha:a<d.nx.length) (hb:b<d.nx.length):HT Try.prog 113 [.agg (dC d),.sl d.nx.length (HL.ints (jm d.nx.length c)),.int .i64 a,.int .i64 b] (fun r=>r=.bool (decide (sig (bK d) (iW d) c a=sig (bK d) (iW d) c b))):=by
 obtain ⟨h1,h2,h3,h4,h5⟩:=lD hv
 have ok:=vN hv
 refine HT.of rfl adD (bF rfl) ?_
 unfold adf
 simp only [ay,Nat.reduceAdd,dC]
 have ea:=U7 c ha
 have eb:=U7 c hb
 have fa:(HL.bools d.fn).getD a .dead=.bool (iW d a):=by
  have:a<d.fn.length:=by omega
  simp [HL.bools,iW,this]
 have fb:(HL.bools d.fn).getD b .dead=.bool (iW d b):=by
  have:b<d.fn.length:=by omega
  simp [HL.bools,iW,this]
 refine zF ⟨?_⟩
 have hsig:=aaf (d:=d) (c:=c) (a:=a) (b:=b)
 by_cases e1:c a=c b
 ·by_cases e2:iW d a=iW d b
  ·have hne:(iW d a==iW d b)=true:=by rw [e2];simp
   generalize iW d a=ba at fa e2 hne hsig
   generalize iW d b=bb at fb e2 hne hsig
   have hra:=mO hv ha
   have hrb:=mO hv hb
   have hma:=WN (f:=c) (g:=c) (l:=bK d a) (m:=bK d b) (by rw [ok.len a ha,ok.len b hb])
   rw [ok.len a ha] at hma
   refine bJ aA aA (fun _ _ _=>False) ?_
   refine fP (zA @ea (zA @eb (zA @fa (zA @fb (zA @hne @Bool.not_true))))) ⟨?_⟩
   refine aF [1,2,3,4,9] (fun j:Nat=>(j:Int)<=d.sz/\∀s,s<j->c ((bK d a).getD s 0)=c ((bK d b).getD s 0))
    (fun j=>⟨[(1,.sl d.nx.length (HL.ints (jm d.nx.length c))),(2,.int .i64 a),(3,.int .i64 b),(4,.pref 0 [] 0),(9,.int .i64 j)],[(0,.optr [.int .i64 d.sz,.sl d.nx.length (iT d.nx),.sl d.fn.length (HL.bools d.fn)])],1⟩)
    (fun j=>d.sz.toNat - j) 0 ⟨by omega,fun s hs=>by omega⟩ rfl ?_
   rintro j ⟨hj,hall⟩
   have rowa:=yK d.nx ha
   have rowb:=yK d.nx hb
   by_cases hjl:(j:Int)<d.sz
   ·have xa:(HL.ints (d.nx.getD a [])).getD j .dead=.int .i64 ((d.nx.getD a []).getD j 0):=AX (by omega)
    have xb:(HL.ints (d.nx.getD b [])).getD j .dead=.int .i64 ((d.nx.getD b []).getD j 0):=AX (by omega)
    have na:(bK d a).getD j 0=((d.nx.getD a []).getD j 0).toNat:=XL (by omega)
    have nb:(bK d b).getD j 0=((d.nx.getD b []).getD j 0).toNat:=XL (by omega)
    have ya:=hra.2 j (by omega)
    have yb:=hrb.2 j (by omega)
    have hla:=hra.1
    have hlb:=hrb.1
    generalize d.nx.getD a []=ra at rowa xa na ya hla
    generalize d.nx.getD b []=rb at rowb xb nb yb hlb
    generalize ra.getD j 0=ia at xa na ya
    generalize rb.getD j 0=ib at xb nb yb
    have ca:(HL.ints (jm d.nx.length c)).getD ia.toNat .dead=.int .i64 (c ia.toNat):=U7 c (by omega)
    have cb:(HL.ints (jm d.nx.length c)).getD ib.toNat .dead=.int .i64 (c ib.toNat):=U7 c (by omega)
    refine aU ?_
    refine aU ?_
    refine bg ?_
    refine zQ ⟨?_⟩
    refine fM (by rfl) ?_
    refine fF ?_
    refine aU ?_
    refine fD ?_
    refine aU ?_
    refine bJ aA aA (fun _ _ _=>False) ?_
    by_cases e3:c ia.toNat=c ib.toNat
    ·refine fP (zA @rowa (zA @rowb (zA @xa (zA @xb (zA @ca @cb))))) ⟨?_⟩
     refine aV [1,2,3,4,9] (j+1) ⟨by omega,fun s hs=>?_⟩ (by omega) rfl
     by_cases hsj:s=j
     ·subst hsj;rw [na,nb];exact e3
     ·exact hall s (by omega)
    ·have hno:¬ (bK d a).map c=(bK d b).map c:=fun h=>e3 (by have:=hma.1 h j (by omega);rwa [na,nb] at this)
     have hd:decide (sig (bK d) (iW d) c a=sig (bK d) (iW d) c b)=false:=decide_eq_false fun h=>hno (hsig.1 h).2.2
     rw [hd]
     refine fP (zA @rowa (zA @rowb (zA @xa (zA @xb (zA @ca @cb))))) ⟨?_⟩
     refine ae ?_
     rfl
   ·have hd:decide (sig (bK d) (iW d) c a=sig (bK d) (iW d) c b)=true:=decide_eq_true (hsig.2 ⟨e1,e2,hma.2 fun s hs=>hall s (by omega)⟩)
    rw [hd]
    refine zF ⟨?_⟩
    refine ae ?_
    rfl
  ·have hne:(iW d a==iW d b)=false:=by simp [e2]
   have hd:decide (sig (bK d) (iW d) c a=sig (bK d) (iW d) c b)=false:=decide_eq_false fun h=>e2 (hsig.1 h).2.1
   rw [hd]
   refine bJ aA aA (fun _ _ _=>False) ?_
   refine fP (zA @ea (zA @eb (zA @fa (zA @fb (zA @hne @Bool.not_false))))) ⟨?_⟩
   refine ae ?_
   rfl
 ·have hd:decide (sig (bK d) (iW d) c a=sig (bK d) (iW d) c b)=false:=decide_eq_false fun h=>e1 (hsig.1 h).1
  rw [hd]
  refine bJ aA aA (fun _ _ _=>False) ?_
  refine fP (zA @ea @eb) ⟨?_⟩
  refine ae ?_
  rfl
end Go.Proofs.Ytlbdmpjnmfmnfaa
end
