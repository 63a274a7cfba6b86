import Derived.Test.YtlbdmpjnmfmnfaaDrA
import Derived.Test.YtlbdmpjnmfmnfaaDmC
import Derived.Test.YtlbdmpjnmfmnfaaDmE
import Derived.Test.YtlbdmpjnmfmnfaaFs3
import Derived.Test.YtlbdmpjnmfmnfaaHlW
set_option linter.unusedSimpArgs false
set_option linter.unusedVariables false
set_option maxHeartbeats 16000000
namespace Go.Proofs.Ytlbdmpjnmfmnfaa
open Go.RowKit Go.HL Go.FS Go.MN
theorem adc {α:Type} [DecidableEq α] {l:List α} {a:α} (h:a∈l):ix l a<l.length:=List.idxOf_lt_length_of_mem h
theorem NU (fin:List Bool) (al:List A) (sz:Int) (hv:okF fin al=true) (hn:fin.length<=10) (hs:1<=sz/\sz<=64):HT Try.prog 47 [.agg (dR fin al),.int .i64 sz] (Ci fin al sz):=by
 obtain ⟨h1,h2,h3⟩:=lF hv
 have hk:∀a∈al,0<=a.f/\a.f<fin.length/\0<=a.t/\a.t<fin.length:=fun a ha=>by have:=gu hv ha;omega
 have hi64:∀a∈al,-1<=a.i/\a.i<64:=fun a ha=>by have:=gu hv ha;omega
 obtain ⟨δ,hδ⟩:=SpD.ex al fin.length
 obtain ⟨x,hx⟩:=SpS.ex al fin.length
 have hval:=Jh fin al (by omega) (by omega)
 have hcl0:=JM fin al hv ((List.replicate fin.length false).set 0 true) (by simp)
 rw [hv] at hval
 refine HT.ofC rfl adG [4,5] rfl (bF rfl) ?_
 unfold c47
 simp only [ay,Nat.reduceAdd,dR,fU] at hval hcl0 ⊢
 refine zF ⟨?_⟩
 refine aX aG bz (hval) ?_
 rintro _ rfl
 refine zG ⟨?_⟩
 refine zF ⟨?_⟩
 have hwx:win (HL.bools ((List.replicate fin.length false).set 0 true)) 0 fin.length=HL.bools ((List.replicate fin.length false).set 0 true):=dw _ (by simp [HL.bools])
 refine aX aG (zW @hwx) (hcl0) ?_
 rintro _ ⟨y,rfl,hy⟩
 obtain rfl:x=y:=(TW (by omega) hx hy).symm
 refine zG ⟨?_⟩
 refine zF ⟨?_⟩
 refine dZ 464 [0,1,1] [1,2,4,7,8,9] (⟨[(1,.int .i64 sz),(2,.pref 0 [] 0),(4,.pref 1 [] 0),(7,.ref 2 [] 1 0 1),(8,.pref 3 [] 0),(9,.int .i64 (0:Nat))],[(0,.optr [.sl fin.length (HL.bools fin),.sl al.length (recs aC al)]),(1,.optr [.int .i64 0,.nils,.nils]),(2,.osl 1 [x].length (bO fin.length [x])),(3,.optr [.int .i64 sz,.osl 1 ([]:List (List Nat)).length (iO (rI ([]:List (List Nat)))),.osl 1 ([]:List Bool).length (HL.bools ([]:List Bool))])],4⟩:St) rfl rfl ?_
 refine aP 0 [1,2,4,7,8,9] (⟨[(1,.int .i64 sz),(2,.ptr (stripL [.sl fin.length (HL.bools fin),.sl al.length (recs aC al)]) 0),(4,.pref 0 [] 0),(7,.ref 1 [] 1 0 [x].length),(8,.pref 2 [] 0),(9,.int .i64 (0:Nat))],[(0,.optr [.int .i64 0,.nils,.nils]),(1,.osl 1 [x].length (bO fin.length [x])),(2,.optr [.int .i64 sz,.osl 1 ([]:List (List Nat)).length (iO (rI ([]:List (List Nat)))),.osl 1 ([]:List Bool).length (HL.bools ([]:List Bool))])],3⟩:St) rfl ?_
 rw [pM]
 refine aF [1,2,4,7,8,9] (fun i:Nat=>i<=(aK δ sz.toNat x i).1.length/\∀j,j<i->j<(aK δ sz.toNat x j).1.length) (fun i=>⟨[(1,.int .i64 sz),(2,.ptr [.sl fin.length (HL.bools fin),.sl al.length (recs aC al)] 0),(4,.pref 0 [] 0),(7,.ref 1 [] 1 0 (aK δ sz.toNat x i).1.length),(8,.pref 2 [] 0),(9,.int .i64 (i:Nat))],[(0,.optr [.int .i64 0,.nils,.nils]),(1,.osl 1 (aK δ sz.toNat x i).1.length (bO fin.length (aK δ sz.toNat x i).1)),(2,.optr [.int .i64 sz,.osl 1 (aK δ sz.toNat x i).2.length (iO (rI (aK δ sz.toNat x i).2)),.osl 1 (((aK δ sz.toNat x i).1.take i).map (kw fin)).length (HL.bools (((aK δ sz.toNat x i).1.take i).map (kw fin)))])],3⟩) (fun i=>1024 - i) 0 ⟨dS _,fun j hj=>absurd hj (Dn j)⟩ rfl ?_
 rintro i ⟨hi,hdn⟩
 have hall:=Ag (sz:=sz.toNat) hδ hx i
 have hnd:=nG (δ:=δ) (sz:=sz.toNat) (a:=x) i
 have hRl:=gG (δ:=δ) (sz:=sz.toNat) (a:=x) i
 have hfew:=Am (sz:=sz.toNat) hδ hx hn i
 have hsucc:aK δ sz.toNat x (i+1)=((scan δ ((aK δ sz.toNat x i).1.getD i default) (aK δ sz.toNat x i).1 sz.toNat).1,(aK δ sz.toNat x i).2++[(scan δ ((aK δ sz.toNat x i).1.getD i default) (aK δ sz.toNat x i).1 sz.toNat).2]):=rfl
 by_cases hil:i<(aK δ sz.toNat x i).1.length
 ·have hdn2:∀j,j<i+1->j<(aK δ sz.toNat x j).1.length:=fun j hj=>by
   by_cases e:j=i
   ·subst e;exact hil
   ·exact hdn j (by omega)
  generalize (aK δ sz.toNat x i).1=M at hi hall hnd hfew hsucc hil ⊢
  generalize (aK δ sz.toNat x i).2=R at hRl hsucc ⊢
  generalize hfi:(M.take i).map (kw fin)=F
  obtain ⟨b,hb⟩:∃b,M.getD i default=b:=⟨_,rfl⟩
  rw [hb] at hsucc
  have hFl:F.length=i:=by rw [<- hfi,List.length_map,eu];omega
  have hbl:b.length=fin.length:=by
   rw [<- hb,bf,bn hil];exact hall _ (iD hil)
  refine zF ⟨?_⟩
  refine bV [1,2,4,7,8,9,10,11,12] (⟨[(1,.int .i64 sz),(2,.ptr [.sl fin.length (HL.bools fin),.sl al.length (recs aC al)] 0),(4,.pref 0 [] 0),(7,.ref 1 [] 1 0 M.length),(8,.pref 2 [] 0),(9,.int .i64 (i:Nat)),(10,.ref 3 [] 1 0 ([]:List Nat).length),(11,.bool false),(12,.int .i64 (0:Nat))],[(0,.optr [.int .i64 0,.nils,.nils]),(1,.osl 1 M.length (bO fin.length M)),(2,.optr [.int .i64 sz,.osl 1 R.length (iO (rI R)),.osl 1 F.length (HL.bools F)]),(3,.osl 1 ([]:List Nat).length (HL.ints (nI ([]:List Nat))))],4⟩:St) rfl ?_
  refine aaR fin al sz M [] R F i b hb hil hbl hn ?_
  refine zF ⟨?_⟩
  obtain ⟨z,hzz⟩:∃z,kw fin b=z:=⟨_,rfl⟩
  rw [hzz]
  refine aF [1,2,4,7,8,9,10,11,13] (fun s:Nat=>s<=sz.toNat) (fun s=>⟨[(1,.int .i64 sz),(2,.ptr [.sl fin.length (HL.bools fin),.sl al.length (recs aC al)] 0),(4,.pref 0 [] 0),(7,.ref 1 [] 1 0 (scan δ b M s).1.length),(8,.pref 2 [] 0),(9,.int .i64 (i:Nat)),(10,.ref 3 [] 1 0 (scan δ b M s).2.length),(11,.bool z),(13,.int .i64 (s:Nat))],[(0,.optr [.int .i64 0,.nils,.nils]),(1,.osl 1 (scan δ b M s).1.length (bO fin.length (scan δ b M s).1)),(2,.optr [.int .i64 sz,.osl 1 R.length (iO (rI R)),.osl 1 F.length (HL.bools F)]),(3,.osl 1 (scan δ b M s).2.length (HL.ints (nI (scan δ b M s).2)))],4⟩) (fun s=>sz.toNat - s) 0 (dS _) rfl ?_
  intro s hs2
  have hsl:=kX (δ:=δ) (a:=b) (L:=M) s
  have hsn:=nD (δ:=δ) (a:=b) hnd s
  have hQv:=pV (δ:=δ) (a:=b) (P:=fun c:List Bool=>c.length=fin.length) hall s (fun t _=>(hδ b t).1)
  have hQf:(scan δ b M s).1.length<=1024:=by
   have g1:=Ko hsn hQv
   have g2:2 ^ fin.length<=2 ^ 10:=Ce (by omega) hn
   have g3:(2:Nat) ^ 10=1024:=by decide
   omega
  have hpre:=sO (δ:=δ) (a:=b) (L:=M) s
  have hiQ:i<(scan δ b M s).1.length:=by obtain ⟨q,hq⟩:=hpre;rw [hq,dQ];omega
  have hbQ:(scan δ b M s).1.getD i default=b:=by
   obtain ⟨q,hq⟩:=hpre
   rw [hq,bf,En hil,<- bf];exact hb
  by_cases hsz:s<sz.toNat
  ·have hin1:=fun h=>scan_in (δ:=δ) (a:=b) (L:=M) (s:=s) h
   have hnew1:=fun h=>oH (δ:=δ) (a:=b) (L:=M) (s:=s) h
   have hcl:=JM fin al hv (setB al fin.length b s al.length) (C9 ..)
   simp only [dR,fU] at hcl
   have hbl2:(δ b s).length=fin.length:=(hδ b s).1
   generalize (scan δ b M s).1=Q at hin1 hnew1 hsn hQv hQf hiQ hbQ ⊢
   generalize (scan δ b M s).2=row at hin1 hnew1 hsl ⊢
   refine zF ⟨?_⟩
   rw [<- UM al fin.length b s]
   refine bV [1,2,4,7,8,9,10,11,13,14,15] (⟨[(1,.int .i64 sz),(2,.ptr [.sl fin.length (HL.bools fin),.sl al.length (recs aC al)] 0),(4,.pref 0 [] 0),(7,.ref 1 [] 1 0 Q.length),(8,.pref 2 [] 0),(9,.int .i64 (i:Nat)),(10,.ref 3 [] 1 0 row.length),(11,.bool z),(13,.int .i64 (s:Nat)),(14,.ref 4 [] 1 0 fin.length),(15,.int .i64 (0:Nat))],[(0,.optr [.int .i64 0,.nils,.nils]),(1,.osl 1 Q.length (bO fin.length Q)),(2,.optr [.int .i64 sz,.osl 1 R.length (iO (rI R)),.osl 1 F.length (HL.bools F)]),(3,.osl 1 row.length (HL.ints (nI row))),(4,.osl 1 fin.length (HL.bools (setB al fin.length b s 0)))],5⟩:St) rfl ?_
   refine Za fin al sz Q row R F i s z b hbQ hiQ hbl hn h3 hk hi64 ?_
   have hspc:=fun y=>Yp (y:=y) (b:=b) (s:=s) hk hδ
   have hsbl:=C9 al fin.length b s al.length
   generalize setB al fin.length b s al.length=sb at hcl hspc hsbl ⊢
   refine zF ⟨?_⟩
   have hwx:win (HL.bools sb) 0 fin.length=HL.bools sb:=dw _ (by rw [HL.bools_len,hsbl])
   refine aX aG (zW @hwx) (hcl) ?_
   rintro _ ⟨y,rfl,hy⟩
   obtain rfl:=hspc y hy
   clear hcl hspc hy
   generalize hyd:δ b s=y at hin1 hnew1 hbl2 ⊢
   refine zG ⟨?_⟩
   refine zF ⟨?_⟩
   have hwr:win (HL.ints (nI row)) 0 row.length=HL.ints (nI row):=dw _ (by simp [HL.ints,nI])
   by_cases hin:y∈Q
   ·have hlt:=adc hin
    have hap:=yJ row (ix Q y)
    refine bV [1,2,4,7,8,9,10,11,13,14,17] (⟨[(1,.int .i64 sz),(2,.ptr [.sl fin.length (HL.bools fin),.sl al.length (recs aC al)] 0),(4,.pref 0 [] 0),(7,.ref 1 [] 1 0 Q.length),(8,.pref 2 [] 0),(9,.int .i64 (i:Nat)),(10,.ref 3 [] 1 0 row.length),(11,.bool z),(13,.int .i64 (s:Nat)),(14,.ref 4 [] 1 0 fin.length),(17,.int .i64 (0:Nat))],[(0,.optr [.int .i64 0,.nils,.nils]),(1,.osl 1 Q.length (bO fin.length Q)),(2,.optr [.int .i64 sz,.osl 1 R.length (iO (rI R)),.osl 1 F.length (HL.bools F)]),(3,.osl 1 row.length (HL.ints (nI row))),(4,.osl 1 fin.length (HL.bools y))],5⟩:St) rfl ?_
    refine QT fin al sz Q row R F i s z y hbl2 hQv hQf hn (ix Q y) (by rw [if_pos hin]) ?_
    have h11:scan δ b M (s+1)=(Q,row++[ix Q y]):=hin1 hin
    generalize ix Q y=ky at hlt hap h11 ⊢
    refine fP (zA @hwr @hap) ⟨?_⟩
    refine aV [1,2,4,7,8,9,10,11,13] (s+1) hsz (by omega) ?_
    simp only [h11,dQ,zO]
    rfl
   ·have hap:=yJ row Q.length
    have hapB:=abV fin.length Q y
    have hwB:win (bO fin.length Q) 0 Q.length=bO fin.length Q:=dw _ (by simp [bO])
    refine bV [1,2,4,7,8,9,10,11,13,14,17] (⟨[(1,.int .i64 sz),(2,.ptr [.sl fin.length (HL.bools fin),.sl al.length (recs aC al)] 0),(4,.pref 0 [] 0),(7,.ref 1 [] 1 0 Q.length),(8,.pref 2 [] 0),(9,.int .i64 (i:Nat)),(10,.ref 3 [] 1 0 row.length),(11,.bool z),(13,.int .i64 (s:Nat)),(14,.ref 4 [] 1 0 fin.length),(17,.int .i64 (0:Nat))],[(0,.optr [.int .i64 0,.nils,.nils]),(1,.osl 1 Q.length (bO fin.length Q)),(2,.optr [.int .i64 sz,.osl 1 R.length (iO (rI R)),.osl 1 F.length (HL.bools F)]),(3,.osl 1 row.length (HL.ints (nI row))),(4,.osl 1 fin.length (HL.bools y))],5⟩:St) rfl ?_
    refine QT fin al sz Q row R F i s z y hbl2 hQv hQf hn Q.length (by rw [if_neg hin]) ?_
    refine fP (zA @hwr (zA @hap (zA @hapB @hwB))) ⟨?_⟩
    refine aV [1,2,4,7,8,9,10,11,13] (s+1) hsz (by omega) ?_
    simp only [hnew1 hin,dQ,zO]
    rfl
  ·obtain rfl:s=sz.toNat:=by omega
   generalize (scan δ b M sz.toNat).1=Q at hsucc hsn hQv hQf hiQ hbQ hpre ⊢
   generalize (scan δ b M sz.toNat).2=row at hsucc hsl ⊢
   have hap:=G7 (rI R) (nI row) rfl
   have hRw:rI R++[nI row]=rI (R++[row]):=by simp [rI]
   rw [hRw,zH] at hap
   have hwR:win (iO (rI R)) 0 R.length=iO (rI R):=dw _ (by rw [Ed,jf])
   have hwF:win (HL.bools F) 0 F.length=HL.bools F:=dw _ (by simp [HL.bools])
   have hMtk:(Q.take (i+1)).map (kw fin)=F++[z]:=by
    obtain ⟨rr,hrr⟩:=hpre
    rw [hrr,Ic (by omega),rG,bn hil,oW,hfi]
    rw [bf,bn hil] at hb
    simp only [fV] at hb
    simp [hb,hzz]
   refine fP (zA @hwR (zA @hap @hwF)) ⟨?_⟩
   refine aV [1,2,4,7,8,9] (i+1) ?_ (by omega) ?_
   ·rw [hsucc];exact ⟨hiQ,hdn2⟩
   ·simp only [hsucc,hMtk,dQ,zO]
    rfl
 ·have hD:Done δ sz.toNat x i:=⟨by omega,hdn⟩
  have hmin:=(YO ⟨sz,rI (aK δ sz.toNat x i).2,(aK δ sz.toNat x i).1.map (kw fin)⟩ (QJ hs hD (by have:=hD.1;omega) (by rw [List.length_map];exact hD.1))).imp fun r ⟨rows,fn,h,e⟩=>(⟨rows,fn,QZ hδ hx hD (by simpa only [jf,hRl] using h),e⟩:∃rows fn,DomR fin al sz.toNat rows fn/\r=HV.agg (dC ⟨sz,rI rows,fn⟩))
  rw [show ((aK δ sz.toNat x i).1.take i)=(aK δ sz.toNat x i).1 from kC (by omega)]
  have hLl:=hD.1
  generalize (aK δ sz.toNat x i).1=L at hLl hmin hil hi hfew hall hnd ⊢
  generalize (aK δ sz.toNat x i).2=R at hRl hmin ⊢
  simp only [dC,jf,List.length_map] at hmin
  refine aU ?_
  refine aU ?_
  refine bg ?_
  refine zQ ⟨?_⟩
  refine fO (by rfl) ?_
  refine gJ (by rfl) ?_
  refine aP 2 [4,8] (⟨[(4,.pref 0 [] 0),(8,.ptr (stripL [.int .i64 sz,.osl 1 R.length (iO (rI R)),.osl 1 (L.map (kw fin)).length (HL.bools (L.map (kw fin)))]) 0)],[(0,.optr [.int .i64 0,.nils,.nils])],1⟩:St) rfl ?_
  rw [show stripL [.int .i64 sz,.osl 1 R.length (iO (rI R)),.osl 1 (L.map (kw fin)).length (HL.bools (L.map (kw fin)))]=[.int .i64 sz,.sl R.length (iT (rI R)),.sl (L.map (kw fin)).length (HL.bools (L.map (kw fin)))] by simp [stripL,HV.strip,yG,HL.bools_strip]]
  refine zF ⟨?_⟩
  refine aX aG (zW @fE) (hmin) ?_
  rintro _ ⟨rows,fn,hR,rfl⟩
  refine zG ⟨?_⟩
  refine zF ⟨?_⟩
  refine ae ?_
  exact ⟨_,_,rfl,rfl,by have:=QR hv hs hR;simpa [dC,jf,bG] using this⟩
end Go.Proofs.Ytlbdmpjnmfmnfaa
