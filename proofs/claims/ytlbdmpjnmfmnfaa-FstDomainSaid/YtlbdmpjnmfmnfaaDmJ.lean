import Derived.Test.YtlbdmpjnmfmnfaaDmK
import Derived.Test.YtlbdmpjnmfmnfaaFs3
import Derived.Test.YtlbdmpjnmfmnfaaHlW
set_option linter.unusedSimpArgs false
set_option linter.unusedVariables false
set_option maxHeartbeats 16000000
namespace Go.Proofs.Ytlbdmpjnmfmnfaa
open Go.RowKit Go.HL Go.FS Go.MN
theorem Pn (n:Nat) (al:List A):stripL (jX n al)=jX n al:=by simp only [jX,stripL,HV.strip,EN]
theorem QG (fin:List Bool) (al:List A) (sz:Int) (hv:okF fin al=true) (hn:fin.length<=10) (hs:1<=sz/\sz<=64):HT Try.prog 46 [.agg (dR fin al),.int .i64 sz] (Ci fin al sz):=by
 obtain ⟨h1,h2,h3⟩:=lF hv
 have hk:∀a∈al,0<=a.f/\a.f<fin.length/\0<=a.t/\a.t<fin.length:=fun a ha=>by have:=gu hv ha;omega
 obtain ⟨δ,hδ⟩:=SpD.ex al fin.length
 obtain ⟨x,hx⟩:=SpS.ex al fin.length
 have hval:=wB fin al (by omega) (by omega)
 have hfrom:=J6 fin al hv
 rw [hv] at hval
 refine HT.ofC rfl adm [4,5] rfl (bF rfl) ?_
 unfold c46
 simp only [ay,Nat.reduceAdd,dR,fU] at hval hfrom ⊢
 refine zF ⟨?_⟩
 refine aX aG bz (hval) ?_
 rintro _ rfl
 refine zG ⟨?_⟩
 refine zF ⟨?_⟩
 refine aX aG bz (hfrom) ?_
 rintro _ rfl
 refine zG ⟨?_⟩
 refine zQ ⟨?_⟩
 refine aP 256 [1,2,4,6] (⟨[(1,.int .i64 sz),(2,.pref 0 [] 0),(4,.pref 1 [] 0),(6,.ptr (stripL [.osl 1 fin.length (dV (aT (·.f) fin.length al))]) 0)],[(0,.optr [.sl fin.length (HL.bools fin),.sl al.length (recs aC al)]),(1,.optr [.int .i64 0,.nils,.nils])],2⟩:St) rfl ?_
 rw [show stripL [.osl 1 fin.length (dV (aT (·.f) fin.length al))]=jX fin.length al by simp only [stripL,HV.strip,nO];rfl]
 refine aP 0 [1,2,4,6] (⟨[(1,.int .i64 sz),(2,.ptr (stripL [.sl fin.length (HL.bools fin),.sl al.length (recs aC al)]) 0),(4,.pref 0 [] 0),(6,.ptr (jX fin.length al) 0)],[(0,.optr [.int .i64 0,.nils,.nils])],1⟩:St) rfl ?_
 rw [pM]
 refine zF ⟨?_⟩
 refine tY aG ?_
 refine zQ ⟨?_⟩
 refine aP 17 [1,2,4,7] (⟨[(1,.int .i64 sz),(2,.ptr [.sl fin.length (HL.bools fin),.sl al.length (recs aC al)] 0),(4,.pref 0 [] 0),(7,.ptr (stripL [.fn 90 [.ptr (jX fin.length al) 0]]) 0)],[(0,.optr [.int .i64 0,.nils,.nils])],1⟩:St) rfl ?_
 rw [show stripL [.fn 90 [.ptr (jX fin.length al) 0]]=[.fn 90 [.ptr (jX fin.length al) 0]] by simp [stripL,HV.strip,Pn]]
 refine zF ⟨?_⟩
 refine tY aG ?_
 refine zF ⟨?_⟩
 refine tY aG ?_
 refine zQ ⟨?_⟩
 refine dZ 81 [1] [1,2,4,7,8,10,11] (⟨[(1,.int .i64 sz),(2,.ptr [.sl fin.length (HL.bools fin),.sl al.length (recs aC al)] 0),(4,.pref 0 [] 0),(7,.ptr [.fn 90 [.ptr (jX fin.length al) 0]] 0),(8,.fn 91 [.ptr [.sl fin.length (HL.bools fin),.sl al.length (recs aC al)] 0,.ptr [.fn 90 [.ptr (jX fin.length al) 0]] 0]),(10,.pref 1 [] 0),(11,.fn 93 [.pref 2 [] 0,.pref 1 [] 0])],[(0,.optr [.int .i64 0,.nils,.nils]),(1,.optr [.osl 1 0 []]),(2,.optr [.omap ⟨.str,none⟩ [] []])],3⟩:St) rfl rfl ?_
 have hw0:=Nl fin al hk (by omega) h3 [0] (by simp) (by simp;omega)
 have hp0:=Og [] (lf fin.length x) (by have:=J3 fin.length x;omega) (by simp) (fun p hp=>by have:=mem_lf.1 hp;omega) (by simp)
 rw [show insL [] (lf fin.length x)=[lf fin.length x] by simp [insL]] at hp0
 simp only [EM,E5] at hp0
 refine zF ⟨?_⟩
 refine sJ [] [] (by rfl) G6 Aw OM rfl (by decide) (hw0) ?_
 rintro _ outs ⟨rb,hrl,hrc,rfl⟩ hol
 obtain rfl:=gI hol
 obtain rfl:x=rb:=(Xp hk (by omega) hx hrl hrc).symm
 refine ⟨_,_,_,_,_,IB,(by decide),DI,?_⟩
 refine zF ⟨?_⟩
 refine sJ [1,2] [2,1] (by rfl) G6 Aw OM rfl (by decide) (hp0) ?_
 rintro _ _ ⟨rfl,rfl⟩ -
 refine ⟨_,_,_,_,_,IB,(by decide),DI,?_⟩
 refine zF ⟨?_⟩
 refine dZ 115 [0,1,1] [1,2,4,7,8,10,11,12,13] (⟨[(1,.int .i64 sz),(2,.ptr [.sl fin.length (HL.bools fin),.sl al.length (recs aC al)] 0),(4,.pref 0 [] 0),(7,.ptr [.fn 90 [.ptr (jX fin.length al) 0]] 0),(8,.fn 91 [.ptr [.sl fin.length (HL.bools fin),.sl al.length (recs aC al)] 0,.ptr [.fn 90 [.ptr (jX fin.length al) 0]] 0]),(10,.pref 1 [] 0),(11,.fn 93 [.pref 2 [] 0,.pref 1 [] 0]),(12,.pref 3 [] 0),(13,.int .i64 (0:Nat))],[(0,.optr [.int .i64 0,.nils,.nils]),(1,.optr [.osl 1 [x].length (iO ([x].map (lf fin.length)))]),(2,.optr [.omap ⟨.str,none⟩ ((([x].map (lf fin.length)).map xe).map vW) (lU [x].length)]),(3,.optr [.int .i64 sz,.osl 1 ([]:List (List Nat)).length (iO (rI ([]:List (List Nat)))),.osl 1 ([]:List Bool).length (HL.bools ([]:List Bool))])],4⟩:St) rfl rfl ?_
 refine aF [1,2,4,7,8,10,11,12,13] (fun i:Nat=>i<=(aK δ sz.toNat x i).1.length/\∀j,j<i->j<(aK δ sz.toNat x j).1.length) (fun i=>⟨[(1,.int .i64 sz),(2,.ptr [.sl fin.length (HL.bools fin),.sl al.length (recs aC al)] 0),(4,.pref 0 [] 0),(7,.ptr [.fn 90 [.ptr (jX fin.length al) 0]] 0),(8,.fn 91 [.ptr [.sl fin.length (HL.bools fin),.sl al.length (recs aC al)] 0,.ptr [.fn 90 [.ptr (jX fin.length al) 0]] 0]),(10,.pref 1 [] 0),(11,.fn 93 [.pref 2 [] 0,.pref 1 [] 0]),(12,.pref 3 [] 0),(13,.int .i64 (i:Nat))],[(0,.optr [.int .i64 0,.nils,.nils]),(1,.optr [.osl 1 (aK δ sz.toNat x i).1.length (iO ((aK δ sz.toNat x i).1.map (lf fin.length)))]),(2,.optr [.omap ⟨.str,none⟩ ((((aK δ sz.toNat x i).1.map (lf fin.length)).map xe).map vW) (lU (aK δ sz.toNat x i).1.length)]),(3,.optr [.int .i64 sz,.osl 1 (aK δ sz.toNat x i).2.length (iO (rI (aK δ sz.toNat x i).2)),.osl 1 (((aK δ sz.toNat x i).1.take i).map (kw fin)).length (HL.bools (((aK δ sz.toNat x i).1.take i).map (kw fin)))])],4⟩) (fun i=>1024 - i) 0 ⟨dS _,fun j hj=>absurd hj (Dn j)⟩ rfl ?_
 rintro i ⟨hi,hdn⟩
 have hall:=Ag (sz:=sz.toNat) hδ hx i
 have hnd:=nG (δ:=δ) (sz:=sz.toNat) (a:=x) i
 have hRl:=gG (δ:=δ) (sz:=sz.toNat) (a:=x) i
 have hfew:=Am (sz:=sz.toNat) hδ hx hn i
 have hsucc:aK δ sz.toNat x (i+1)=((scan δ ((aK δ sz.toNat x i).1.getD i default) (aK δ sz.toNat x i).1 sz.toNat).1,(aK δ sz.toNat x i).2++[(scan δ ((aK δ sz.toNat x i).1.getD i default) (aK δ sz.toNat x i).1 sz.toNat).2]):=rfl
 by_cases hil:i<(aK δ sz.toNat x i).1.length
 ·have hdn2:∀j,j<i+1->j<(aK δ sz.toNat x j).1.length:=fun j hj=>by
   by_cases e:j=i
   ·subst e;exact hil
   ·exact hdn j (by omega)
  generalize (aK δ sz.toNat x i).1=M at hi hall hnd hfew hsucc hil ⊢
  generalize (aK δ sz.toNat x i).2=R at hRl hsucc ⊢
  generalize hfi:(M.take i).map (kw fin)=F
  obtain ⟨b,hb⟩:∃b,M.getD i default=b:=⟨_,rfl⟩
  rw [hb] at hsucc
  have hFl:F.length=i:=by rw [<- hfi,List.length_map,eu];omega
  refine zF ⟨?_⟩
  refine aF [1,2,4,7,8,10,11,12,13,14,47,48] (fun s:Nat=>s<=sz.toNat) (fun s=>⟨[(1,.int .i64 sz),(2,.ptr [.sl fin.length (HL.bools fin),.sl al.length (recs aC al)] 0),(4,.pref 0 [] 0),(7,.ptr [.fn 90 [.ptr (jX fin.length al) 0]] 0),(8,.fn 91 [.ptr [.sl fin.length (HL.bools fin),.sl al.length (recs aC al)] 0,.ptr [.fn 90 [.ptr (jX fin.length al) 0]] 0]),(10,.pref 1 [] 0),(11,.fn 93 [.pref 2 [] 0,.pref 1 [] 0]),(12,.pref 3 [] 0),(13,.int .i64 (i:Nat)),(14,.ref 4 [] 1 0 (scan δ b M s).2.length),(47,.int .i64 sz),(48,.int .i64 (s:Nat))],[(0,.optr [.int .i64 0,.nils,.nils]),(1,.optr [.osl 1 (scan δ b M s).1.length (iO ((scan δ b M s).1.map (lf fin.length)))]),(2,.optr [.omap ⟨.str,none⟩ ((((scan δ b M s).1.map (lf fin.length)).map xe).map vW) (lU (scan δ b M s).1.length)]),(3,.optr [.int .i64 sz,.osl 1 R.length (iO (rI R)),.osl 1 F.length (HL.bools F)]),(4,.osl 1 (scan δ b M s).2.length (HL.ints (nI (scan δ b M s).2)))],5⟩) (fun s=>sz.toNat - s) 0 (dS _) rfl ?_
  intro s hs2
  have hsl:=kX (δ:=δ) (a:=b) (L:=M) s
  have hsn:=nD (δ:=δ) (a:=b) hnd s
  have hQv:=pV (δ:=δ) (a:=b) (P:=fun c:List Bool=>c.length=fin.length) hall s (fun t _=>(hδ b t).1)
  have hQf:(scan δ b M s).1.length<=1024:=by
   have g1:=Ko hsn hQv
   have g2:2 ^ fin.length<=2 ^ 10:=Ce (by omega) hn
   have g3:(2:Nat) ^ 10=1024:=by decide
   omega
  have hpre:=sO (δ:=δ) (a:=b) (L:=M) s
  have hiQ:i<(scan δ b M s).1.length:=by obtain ⟨q,hq⟩:=hpre;rw [hq,dQ];omega
  have hbQ:(scan δ b M s).1.getD i default=b:=by
   obtain ⟨q,hq⟩:=hpre
   rw [hq,bf,En hil,<- bf];exact hb
  by_cases hsz:s<sz.toNat
  ·have hin1:=fun h=>scan_in (δ:=δ) (a:=b) (L:=M) (s:=s) h
   have hnew1:=fun h=>oH (δ:=δ) (a:=b) (L:=M) (s:=s) h
   have hbl2:(δ b s).length=fin.length:=(hδ b s).1
   generalize (scan δ b M s).1=Q at hin1 hnew1 hsn hQv hQf hiQ hbQ ⊢
   generalize (scan δ b M s).2=row at hin1 hnew1 hsl ⊢
   refine aU ?_
   refine bg ?_
   refine zQ ⟨?_⟩
   refine aU ?_
   refine fM (by rfl) ?_
   refine fF ?_
   refine aU ?_
   refine fD ?_
   refine aU ?_
   refine bg ?_
   refine zQ ⟨?_⟩
   refine bV [1,2,4,7,8,10,11,12,13,14,15,47,48] (⟨[(1,.int .i64 sz),(2,.ptr [.sl fin.length (HL.bools fin),.sl al.length (recs aC al)] 0),(4,.pref 0 [] 0),(7,.ptr [.fn 90 [.ptr (jX fin.length al) 0]] 0),(8,.fn 91 [.ptr [.sl fin.length (HL.bools fin),.sl al.length (recs aC al)] 0,.ptr [.fn 90 [.ptr (jX fin.length al) 0]] 0]),(10,.pref 1 [] 0),(11,.fn 93 [.pref 2 [] 0,.pref 1 [] 0]),(12,.pref 3 [] 0),(13,.int .i64 (i:Nat)),(14,.ref 4 [] 1 0 row.length),(15,.int .i64 (s:Nat)),(47,.int .i64 sz),(48,.int .i64 (s:Nat))],[(0,.optr [.int .i64 0,.nils,.nils]),(1,.optr [.osl 1 Q.length (iO (Q.map (lf fin.length)))]),(2,.optr [.omap ⟨.str,none⟩ (((Q.map (lf fin.length)).map xe).map vW) (lU Q.length)]),(3,.optr [.int .i64 sz,.osl 1 R.length (iO (rI R)),.osl 1 F.length (HL.bools F)]),(4,.osl 1 row.length (HL.ints (nI row)))],5⟩:St) rfl ?_
   by_cases hin:δ b s∈Q
   ·obtain ⟨e1,e2⟩:=abt hQv hbl2 hin
    refine aaB fin al sz Q Q row R F i s (ix Q (δ b s)) b δ hδ hk hn h3 hbQ hiQ hQf (by omega) (by omega) e1 e2 ?_
    refine zF ⟨?_⟩
    refine aV [1,2,4,7,8,10,11,12,13,14,47,48] (s+1) hsz (by omega) ?_
    simp only [hin1 hin]
    rfl
   ·obtain ⟨e1,e2⟩:=YK hQv hbl2 hin
    refine aaB fin al sz Q (Q++[δ b s]) row R F i s Q.length b δ hδ hk hn h3 hbQ hiQ hQf (by omega) (by omega) e1 e2 ?_
    refine zF ⟨?_⟩
    refine aV [1,2,4,7,8,10,11,12,13,14,47,48] (s+1) hsz (by omega) ?_
    simp only [hnew1 hin]
    rfl
  ·obtain rfl:s=sz.toNat:=by omega
   generalize (scan δ b M sz.toNat).1=Q at hsucc hsn hQv hQf hiQ hbQ hpre ⊢
   generalize (scan δ b M sz.toNat).2=row at hsucc hsl ⊢
   have hap:=G7 (rI R) (nI row) rfl
   have hRw:rI R++[nI row]=rI (R++[row]):=by simp [rI]
   rw [hRw,zH] at hap
   have hwR:win (iO (rI R)) 0 R.length=iO (rI R):=dw _ (by rw [Ed,jf])
   have hRl2:(R++[row]).length=R.length+1:=by simp
   have hMtk:(Q.take (i+1)).map (kw fin)=F++[kw fin b]:=by
    obtain ⟨rr,hrr⟩:=hpre
    rw [hrr,Ic (by omega),rG,bn hil,oW,hfi]
    rw [bf,bn hil] at hb
    simp only [fV] at hb
    simp [hb]
   refine aU ?_
   refine bg ?_
   refine zQ ⟨?_⟩
   refine aU ?_
   refine fO (by rfl) ?_
   refine gJ (by rfl) ?_
   refine fP (zA @hwR @hap) ⟨?_⟩
   rw [<- hRl2]
   refine bV [1,2,4,7,8,10,11,12,13] (⟨[(1,.int .i64 sz),(2,.ptr [.sl fin.length (HL.bools fin),.sl al.length (recs aC al)] 0),(4,.pref 0 [] 0),(7,.ptr [.fn 90 [.ptr (jX fin.length al) 0]] 0),(8,.fn 91 [.ptr [.sl fin.length (HL.bools fin),.sl al.length (recs aC al)] 0,.ptr [.fn 90 [.ptr (jX fin.length al) 0]] 0]),(10,.pref 1 [] 0),(11,.fn 93 [.pref 2 [] 0,.pref 1 [] 0]),(12,.pref 3 [] 0),(13,.int .i64 (i:Nat))],[(0,.optr [.int .i64 0,.nils,.nils]),(1,.optr [.osl 1 Q.length (iO (Q.map (lf fin.length)))]),(2,.optr [.omap ⟨.str,none⟩ (((Q.map (lf fin.length)).map xe).map vW) (lU Q.length)]),(3,.optr [.int .i64 sz,.osl 1 (R++[row]).length (iO (rI (R++[row]))),.osl 1 F.length (HL.bools F)])],4⟩:St) rfl ?_
   refine aa4 fin al sz Q (R++[row]) F i b hbQ hiQ hn (by omega) ?_
   refine zF ⟨?_⟩
   refine aV [1,2,4,7,8,10,11,12,13] (i+1) ?_ (by omega) ?_
   ·rw [hsucc];exact ⟨hiQ,hdn2⟩
   ·simp only [hsucc,hMtk,dQ,zO]
    rfl
 ·have hD:Done δ sz.toNat x i:=⟨by omega,hdn⟩
  have hmin:=(abj ⟨sz,rI (aK δ sz.toNat x i).2,(aK δ sz.toNat x i).1.map (kw fin)⟩ (QJ hs hD (by have:=hD.1;omega) (by rw [List.length_map];exact hD.1))).imp fun r ⟨rows,fn,h,e⟩=>(⟨rows,fn,QZ hδ hx hD (by simpa only [jf,hRl] using h),e⟩:∃rows fn,DomR fin al sz.toNat rows fn/\r=HV.agg (dC ⟨sz,rI rows,fn⟩))
  rw [show ((aK δ sz.toNat x i).1.take i)=(aK δ sz.toNat x i).1 from kC (by omega)]
  have hLl:=hD.1
  generalize (aK δ sz.toNat x i).1=L at hLl hmin hil hi hfew hall hnd ⊢
  generalize (aK δ sz.toNat x i).2=R at hRl hmin ⊢
  simp only [dC,jf,List.length_map] at hmin
  refine aU ?_
  refine aU ?_
  refine bg ?_
  refine zQ ⟨?_⟩
  refine fO (by rfl) ?_
  refine gJ (by rfl) ?_
  refine aP 3 [4,12] (⟨[(4,.pref 0 [] 0),(12,.ptr (stripL [.int .i64 sz,.osl 1 R.length (iO (rI R)),.osl 1 (L.map (kw fin)).length (HL.bools (L.map (kw fin)))]) 0)],[(0,.optr [.int .i64 0,.nils,.nils])],1⟩:St) rfl ?_
  rw [show stripL [.int .i64 sz,.osl 1 R.length (iO (rI R)),.osl 1 (L.map (kw fin)).length (HL.bools (L.map (kw fin)))]=[.int .i64 sz,.sl R.length (iT (rI R)),.sl (L.map (kw fin)).length (HL.bools (L.map (kw fin)))] by simp [stripL,HV.strip,yG,HL.bools_strip]]
  refine zF ⟨?_⟩
  refine aX aG (zW @fE) (hmin) ?_
  rintro _ ⟨rows,fn,hR,rfl⟩
  refine zG ⟨?_⟩
  refine zF ⟨?_⟩
  refine ae ?_
  exact ⟨_,_,rfl,rfl,by have:=QR hv hs hR;simpa [dC,jf,bG] using this⟩
end Go.Proofs.Ytlbdmpjnmfmnfaa
