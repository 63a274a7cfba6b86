import Derived.Test.YtlbdmpjnmfmnfaaFtX
import Derived.Test.YtlbdmpjnmfmnfaaHlCv
import Derived.Test.YtlbdmpjnmfmnfaaHlW
set_option linter.unusedSimpArgs false
set_option linter.unusedVariables false
set_option maxHeartbeats 16000000
namespace Go.Proofs.Ytlbdmpjnmfmnfaa
open Go.RowKit Go.HL Go.FS Go.MN
def ZM (k:Nat):HV:=.int .i64 k
theorem JV:KF ZM:=⟨fun a b=>by
 show ((a:Int)==(b:Int))=decide (a=b)
 rw [Jz];simp;omega⟩
def nI (l:List Nat):List Int:=l.map fun k:Nat=>(k:Int)
theorem zH (l:List Nat):(nI l).length=l.length:=by simp [nI]
attribute [go_sem] zH
theorem O1 {l:List Nat} {i:Nat} (h:i<l.length):(HL.ints (nI l)).getD i .dead=.int .i64 (l.getD i default):=by simp [HL.ints,nI,h]
theorem yJ (l:List Nat) (k:Nat):HL.ints (nI l)++[.int .i64 k]=HL.ints (nI (l++[k])):=by simp [HL.ints,nI]
def rI (l:List (List Nat)):List (List Int):=l.map nI
theorem jf (l:List (List Nat)):(rI l).length=l.length:=by simp [rI]
attribute [go_sem] jf
def AC (row:List Nat) (z:Nat):List Int:=(List.range z).map fun j=>((row.getD j 0:Nat):Int)
theorem VM (row:List Nat) (z:Nat):(AC row z).length=z:=by simp [AC]
attribute [go_sem] VM
theorem UX (z:Nat):AC [] z=List.replicate z 0:=by
 apply qE
 ·simp [AC]
 ·intro j h1 h2
  simp [AC]
theorem NF {row:List Nat} {z:Nat} (k:Nat) {s:Nat} (hs:row.length=s) (h:s<z):(HL.ints (AC row z)).set s (.int .i64 k)=HL.ints (AC (row++[k]) z):=by
 have:(AC row z).set s (k:Int)=AC (row++[k]) z:=by
  apply qE
  ·simp [AC]
  ·intro j h1 h2
   simp only [AC,IZ,Jg,Gj]
   by_cases e:s=j
   ·subst e hs;simp
   ·simp only [e,if_false]
    rcases dX j row.length with hj|hj
    ·rw [bf,bf,En hj]
    ·rw [bf,bf,qo hj,qo (by simp;omega)]
 rw [<- this];simp [HL.ints]
theorem V5 {row:List Nat} {z:Nat} (h:row.length=z):AC row z=nI row:=by
 subst h
 apply qE
 ·simp [AC,nI]
 ·intro j h1 h2
  have:j<row.length:=by simpa [AC] using h1
  simp [AC,nI,this]
def lg (d:Dz) (c:Nat->Nat) (k:Nat):Bool:=iW d (Go.MN.fst c d.nx.length k)
theorem Qn (d:Dz) (hv:okD d=true) (c:Nat->Nat) (m:Nat) (hcl:Cls (bK d) (iW d) d.nx.length c m):HT Try.prog 108 [.int .i64 (c 0),.int .i64 d.sz,.fn 109 [.ptr [.sl d.nx.length (HL.ints (jm d.nx.length c))] 0,.ptr [.int .i64 d.sz,.sl d.nx.length (iT d.nx),.sl d.fn.length (HL.bools d.fn)] 0,.ptr [.sl d.nx.length (HL.ints (jm d.nx.length (gf c d.nx.length d.nx.length)))] 0],.fn 110 [.ptr [.int .i64 d.sz,.sl d.nx.length (iT d.nx),.sl d.fn.length (HL.bools d.fn)] 0,.ptr [.sl d.nx.length (HL.ints (jm d.nx.length (gf c d.nx.length d.nx.length)))] 0]] (fun r=>∃n,Done (aI (bK d) c d.nx.length) d.sz.toNat (c 0) n/\r=.tup [.agg (dC ⟨d.sz,rI (aK (aI (bK d) c d.nx.length) d.sz.toNat (c 0) n).2,(aK (aI (bK d) c d.nx.length) d.sz.toNat (c 0) n).1.map (lg d c)⟩),.bool true]):=by
 obtain ⟨h1,h2,h3,h4,h5⟩:=lD hv
 have ok:=vN hv
 have hcn:=fun i (hi:i<d.nx.length)=>lI (hcl.lt hi) hcl.le
 have hc1:=fun k s (hk:k<d.nx.length) (hs:s<d.sz.toNat)=>YA d hv c hcn k s hk hs
 have hc2:=fun k (hk:k<d.nx.length)=>YC d hv c k hk
 simp only [dC] at hc1 hc2
 have hall:=fun i=>Ig ok hcl i
 have hfew:=fun i=>y5 ok hcl i
 refine HT.ofC rfl adt [8,9] rfl (bF rfl) ?_
 unfold adB
 simp only [ay,Nat.reduceAdd]
 refine zF ⟨?_⟩
 refine dZ 64 [0,1,1] [1,2,3,8,9,10,11,12,13] (⟨[(1,.int .i64 d.sz),(2,.fn 109 [.ptr [.sl d.nx.length (HL.ints (jm d.nx.length c))] 0,.ptr [.int .i64 d.sz,.sl d.nx.length (iT d.nx),.sl d.fn.length (HL.bools d.fn)] 0,.ptr [.sl d.nx.length (HL.ints (jm d.nx.length (gf c d.nx.length d.nx.length)))] 0]),(3,.fn 110 [.ptr [.int .i64 d.sz,.sl d.nx.length (iT d.nx),.sl d.fn.length (HL.bools d.fn)] 0,.ptr [.sl d.nx.length (HL.ints (jm d.nx.length (gf c d.nx.length d.nx.length)))] 0]),(8,.pref 0 [] 0),(9,.bool false),(10,.pref 1 [] 0),(11,.mref 2 []),(12,.ref 3 [] 1 0 1),(13,.int .i64 0)],[(0,.optr [.int .i64 0,.nils,.nils]),(1,.optr [.int .i64 d.sz,.osl 1 0 [],.osl 1 0 []]),(2,.omap ⟨.int .i64,none⟩ [.int .i64 (c 0)] [.int .i64 0]),(3,.osl 1 1 [.int .i64 (c 0)])],4⟩:St) rfl rfl ?_
 refine aF [1,2,3,8,9,10,11,12,13] (fun i:Nat=>i<=(aK (aI (bK d) c d.nx.length) d.sz.toNat (c 0) i).1.length/\∀j,j<i->j<(aK (aI (bK d) c d.nx.length) d.sz.toNat (c 0) j).1.length)
  (fun i=>⟨[(1,.int .i64 d.sz),(2,.fn 109 [.ptr [.sl d.nx.length (HL.ints (jm d.nx.length c))] 0,.ptr [.int .i64 d.sz,.sl d.nx.length (iT d.nx),.sl d.fn.length (HL.bools d.fn)] 0,.ptr [.sl d.nx.length (HL.ints (jm d.nx.length (gf c d.nx.length d.nx.length)))] 0]),(3,.fn 110 [.ptr [.int .i64 d.sz,.sl d.nx.length (iT d.nx),.sl d.fn.length (HL.bools d.fn)] 0,.ptr [.sl d.nx.length (HL.ints (jm d.nx.length (gf c d.nx.length d.nx.length)))] 0]),(8,.pref 0 [] 0),(9,.bool false),(10,.pref 1 [] 0),(11,.mref 2 []),(12,.ref 3 [] 1 0 (aK (aI (bK d) c d.nx.length) d.sz.toNat (c 0) i).1.length),(13,.int .i64 (i:Nat))],[(0,.optr [.int .i64 0,.nils,.nils]),(1,.optr [.int .i64 d.sz,.osl 1 (aK (aI (bK d) c d.nx.length) d.sz.toNat (c 0) i).2.length (iO (rI (aK (aI (bK d) c d.nx.length) d.sz.toNat (c 0) i).2)),.osl 1 (((aK (aI (bK d) c d.nx.length) d.sz.toNat (c 0) i).1.take i).map (lg d c)).length (HL.bools (((aK (aI (bK d) c d.nx.length) d.sz.toNat (c 0) i).1.take i).map (lg d c)))]),(2,.omap ⟨.int .i64,none⟩ ((aK (aI (bK d) c d.nx.length) d.sz.toNat (c 0) i).1.map ZM) (lU (aK (aI (bK d) c d.nx.length) d.sz.toNat (c 0) i).1.length)),(3,.osl 1 (aK (aI (bK d) c d.nx.length) d.sz.toNat (c 0) i).1.length (HL.ints (nI (aK (aI (bK d) c d.nx.length) d.sz.toNat (c 0) i).1)))],4⟩)
  (fun i=>d.nx.length - i) 0 ⟨dS _,fun j hj=>by omega⟩ rfl ?_
 rintro i ⟨hi,hdn⟩
 have hallL:=hall i
 have hndL:=nG (δ:=aI (bK d) c d.nx.length) (sz:=d.sz.toNat) (a:=c 0) i
 have hRl:=gG (δ:=aI (bK d) c d.nx.length) (sz:=d.sz.toNat) (a:=c 0) i
 have hfewL:=hfew i
 have hsucc:aK (aI (bK d) c d.nx.length) d.sz.toNat (c 0) (i+1)=((scan (aI (bK d) c d.nx.length) ((aK (aI (bK d) c d.nx.length) d.sz.toNat (c 0) i).1.getD i default) (aK (aI (bK d) c d.nx.length) d.sz.toNat (c 0) i).1 d.sz.toNat).1,(aK (aI (bK d) c d.nx.length) d.sz.toNat (c 0) i).2++[(scan (aI (bK d) c d.nx.length) ((aK (aI (bK d) c d.nx.length) d.sz.toNat (c 0) i).1.getD i default) (aK (aI (bK d) c d.nx.length) d.sz.toNat (c 0) i).1 d.sz.toNat).2]):=rfl
 have hend:(aK (aI (bK d) c d.nx.length) d.sz.toNat (c 0) i).1.length<=i->Done (aI (bK d) c d.nx.length) d.sz.toNat (c 0) i:=fun h=>⟨by omega,hdn⟩
 by_cases hil:i<(aK (aI (bK d) c d.nx.length) d.sz.toNat (c 0) i).1.length
 ·have hdn2:∀j,j<i+1->j<(aK (aI (bK d) c d.nx.length) d.sz.toNat (c 0) j).1.length:=fun j hj=>by
   by_cases e:j=i
   ·subst e;exact hil
   ·exact hdn j (by omega)
  generalize (aK (aI (bK d) c d.nx.length) d.sz.toNat (c 0) i).1=L at hsucc hil hi hallL hndL hfewL ⊢
  generalize (aK (aI (bK d) c d.nx.length) d.sz.toNat (c 0) i).2=R at hsucc hRl ⊢
  generalize hfi:(L.take i).map (lg d c)=F
  obtain ⟨x,hx⟩:∃x,L.getD i default=x:=⟨_,rfl⟩
  rw [hx] at hsucc
  obtain ⟨qx,hqx,hcx⟩:∃q,q<d.nx.length/\c q=x:=hallL x (by rw [<- hx,bf,bn hil];exact iD hil)
  have hxn:x<d.nx.length:=by rw [<- hcx];exact hcn qx hqx
  refine zF ⟨?_⟩
  rw [<- UX]
  refine aF [1,2,3,8,9,10,11,12,13,14,35,36] (fun s:Nat=>s<=d.sz.toNat) (fun s=>⟨[(1,.int .i64 d.sz),(2,.fn 109 [.ptr [.sl d.nx.length (HL.ints (jm d.nx.length c))] 0,.ptr [.int .i64 d.sz,.sl d.nx.length (iT d.nx),.sl d.fn.length (HL.bools d.fn)] 0,.ptr [.sl d.nx.length (HL.ints (jm d.nx.length (gf c d.nx.length d.nx.length)))] 0]),(3,.fn 110 [.ptr [.int .i64 d.sz,.sl d.nx.length (iT d.nx),.sl d.fn.length (HL.bools d.fn)] 0,.ptr [.sl d.nx.length (HL.ints (jm d.nx.length (gf c d.nx.length d.nx.length)))] 0]),(8,.pref 0 [] 0),(9,.bool false),(10,.pref 1 [] 0),(11,.mref 2 []),(12,.ref 3 [] 1 0 (scan (aI (bK d) c d.nx.length) x L s).1.length),(13,.int .i64 (i:Nat)),(14,.ref 4 [] 1 0 d.sz.toNat),(35,.int .i64 (d.sz.toNat:Nat)),(36,.int .i64 (s:Nat))],[(0,.optr [.int .i64 0,.nils,.nils]),(1,.optr [.int .i64 d.sz,.osl 1 R.length (iO (rI R)),.osl 1 F.length (HL.bools F)]),(2,.omap ⟨.int .i64,none⟩ ((scan (aI (bK d) c d.nx.length) x L s).1.map ZM) (lU (scan (aI (bK d) c d.nx.length) x L s).1.length)),(3,.osl 1 (scan (aI (bK d) c d.nx.length) x L s).1.length (HL.ints (nI (scan (aI (bK d) c d.nx.length) x L s).1))),(4,.osl 1 d.sz.toNat (HL.ints (AC (scan (aI (bK d) c d.nx.length) x L s).2 d.sz.toNat)))],5⟩) (fun s=>d.sz.toNat - s) 0 (dS _) rfl ?_
  intro s hs
  have hsl:=kX (δ:=aI (bK d) c d.nx.length) (a:=x) (L:=L) s
  have hsn:=nD (δ:=aI (bK d) c d.nx.length) (a:=x) hndL s
  have hsc:∀y∈(scan (aI (bK d) c d.nx.length) x L s).1,∃q,q<d.nx.length/\c q=y:=by
   by_cases h0:s<=d.sz.toNat
   ·refine pV hallL s fun t ht=>?_
    rw [<- hcx,wH ok hcl hqx (by omega)]
    exact ⟨_,ok.get hqx (by omega),rfl⟩
   ·omega
  have hsf:(scan (aI (bK d) c d.nx.length) x L s).1.length<=d.nx.length:=Af _ _ hsn fun y hy=>by
   obtain ⟨q,hq,rfl⟩:=hsc y hy;exact hcn q hq
  obtain ⟨rr,hpre⟩:=sO (δ:=aI (bK d) c d.nx.length) (a:=x) (L:=L) s
  have hLi:i<(scan (aI (bK d) c d.nx.length) x L s).1.length:=by rw [hpre,dQ];omega
  have hLx:(scan (aI (bK d) c d.nx.length) x L s).1.getD i default=x:=by
   rw [hpre,bf,En hil,<- bf,hx]
  have hLv:=O1 hLi
  rw [hLx] at hLv
  by_cases hsz:s<d.sz.toNat
  ·have hin1:=fun h=>scan_in (δ:=aI (bK d) c d.nx.length) (a:=x) (L:=L) (s:=s) h
   have hnew1:=fun h=>oH (δ:=aI (bK d) c d.nx.length) (a:=x) (L:=L) (s:=s) h
   have hkey:∃q,q<d.nx.length/\c q=aI (bK d) c d.nx.length x s:=by
    rw [<- hcx,wH ok hcl hqx hsz]
    exact ⟨_,ok.get hqx hsz,rfl⟩
   have hfew2:aI (bK d) c d.nx.length x s ∉ (scan (aI (bK d) c d.nx.length) x L s).1->(scan (aI (bK d) c d.nx.length) x L s).1.length+1<=d.nx.length:=fun h=>by
    have:=Af d.nx.length ((scan (aI (bK d) c d.nx.length) x L s).1++[aI (bK d) c d.nx.length x s]) (by
     rw [zl008]
     refine ⟨hsn,by simp,fun a ha b hb=>?_⟩
     rw [zl009.1 hb]
     rintro rfl
     exact h ha) (fun y hy=>by
     rcases zl002.1 hy with hy|hy
     ·obtain ⟨q,hq,rfl⟩:=hsc y hy;exact hcn q hq
     ·rw [zl009.1 hy];obtain ⟨q,hq,e⟩:=hkey;rw [<- e];exact hcn q hq)
    simpa using this
   have hcall:=hc1 x s hxn hsz
   rw [XX hv hcl ⟨qx,hqx,hcx⟩ hsz] at hcall
   generalize aI (bK d) c d.nx.length x s=k at hin1 hnew1 hfew2 hcall
   generalize hLe:(scan (aI (bK d) c d.nx.length) x L s).1=M at hin1 hnew1 hfew2 hLv hLi hsf ⊢
   generalize (scan (aI (bK d) c d.nx.length) x L s).2=row at hin1 hnew1 hsl ⊢
   refine fP @hLv ⟨?_⟩
   refine uH (by rfl) aG (zW @fE) (hcall) ?_
   rintro _ rfl
   refine zG ⟨?_⟩
   refine zL ⟨?_⟩
   by_cases hin:k∈M
   ·have hset:=NF (row:=row) (z:=d.sz.toNat) (M.idxOf k) hsl hsz
    refine mf (by rfl) (by rfl) dm af ⟨rfl,rfl⟩ (DL JV _ _ _ hin) (by rfl) ?_
    refine fP @hset ⟨?_⟩
    refine aV [1,2,3,8,9,10,11,12,13,14,35,36] (s+1) hsz (by omega) ?_
    rw [hin1 hin]
    rfl
   ·have hset:=NF (row:=row) (z:=d.sz.toNat) M.length hsl hsz
    have hf2:=hfew2 hin
    have hwl:win (HL.ints (nI M)) 0 M.length=HL.ints (nI M):=dw _ (by simp [HL.ints,nI])
    have hap:=yJ M k
    refine mf (by rfl) (by rfl) dm af ⟨rfl,rfl⟩ (VL JV _ _ _ hin) (by rfl) ?_
    refine zL ⟨?_⟩
    refine jY (by rfl) af af gU (by trivial) gU (by rfl) ⟨rfl,rfl⟩ (PP JV rfl hin) (by rfl) iL ?_
    refine fP (zA @hwl (zA @hap @hset)) ⟨?_⟩
    refine aV [1,2,3,8,9,10,11,12,13,14,35,36] (s+1) hsz (by omega) ?_
    rw [hnew1 hin]
    simp only [dQ,zO]
    rfl
  ·obtain rfl:s=d.sz.toNat:=by omega
   rw [V5 hsl]
   generalize hrw:(scan (aI (bK d) c d.nx.length) x L d.sz.toNat).2=row at hsucc hsl ⊢
   have hpre2:=hpre
   generalize (scan (aI (bK d) c d.nx.length) x L d.sz.toNat).1=M at hsucc hLv hLi hsf hpre2 ⊢
   have hap:=G7 (rI R) (nI row) rfl
   have hRw:rI R++[nI row]=rI (R++[row]):=by simp [rI]
   rw [hRw,zH,hsl] at hap
   have hwR:win (iO (rI R)) 0 R.length=iO (rI R):=dw _ (by rw [Ed,jf])
   have hRl2:(R++[row]).length=R.length+1:=by simp
   have hfx:iW d (gf c d.nx.length d.nx.length x)=lg d c x:=Y0 hcl ⟨qx,hqx,hcx⟩
   have hcall:=hc2 x hxn
   rw [hfx] at hcall
   have htk:(L.take (i+1)).map (lg d c)=F++[lg d c x]:=by
    rw [<- hfi,rG,bn hil,oW]
    rw [bf,bn hil] at hx
    simp only [fV] at hx
    simp [hx]
   have htL:(L.take i).length=i:=by rw [eu];omega
   have hMtk:(M.take (i+1)).map (lg d c)=F++[lg d c x]:=by rw [hpre2,Ic (by omega)];exact htk
   refine fP (zA @hwR @hap) ⟨?_⟩
   rw [<- hRl2]
   refine bV [1,2,3,8,9,10,11,12,13] (⟨[(1,.int .i64 d.sz),(2,.fn 109 [.ptr [.sl d.nx.length (HL.ints (jm d.nx.length c))] 0,.ptr [.int .i64 d.sz,.sl d.nx.length (iT d.nx),.sl d.fn.length (HL.bools d.fn)] 0,.ptr [.sl d.nx.length (HL.ints (jm d.nx.length (gf c d.nx.length d.nx.length)))] 0]),(3,.fn 110 [.ptr [.int .i64 d.sz,.sl d.nx.length (iT d.nx),.sl d.fn.length (HL.bools d.fn)] 0,.ptr [.sl d.nx.length (HL.ints (jm d.nx.length (gf c d.nx.length d.nx.length)))] 0]),(8,.pref 0 [] 0),(9,.bool false),(10,.pref 1 [] 0),(11,.mref 2 []),(12,.ref 3 [] 1 0 M.length),(13,.int .i64 (i:Nat))],[(0,.optr [.int .i64 0,.nils,.nils]),(1,.optr [.int .i64 d.sz,.osl 1 (R++[row]).length (iO (rI (R++[row]))),.osl 1 F.length (HL.bools F)]),(2,.omap ⟨.int .i64,none⟩ (M.map ZM) (lU M.length)),(3,.osl 1 M.length (HL.ints (nI M)))],4⟩:St) rfl ?_
   have hFl:F.length=i:=by rw [<- hfi,List.length_map,htL]
   refine jR [] [10] aA aA (fun _ _ r=>r=.bool (lg d c x)) (by simp) (by simp [au,HV.deep,aQ]) ?_ (by rintro _ _ _ rfl fr;exact oC)
   have hbw:win (HL.bools F) 0 F.length=HL.bools F:=dw _ (by simp [HL.bools])
   have hba:HL.bools F++[.bool (lg d c x)]=HL.bools (F++[lg d c x]):=by simp [HL.bools]
   refine fP @hLv ⟨?_⟩
   refine WR (by rfl) aG (zW @fE) hcall ⟨.bool (lg d c x),rfl,rfl⟩ ?_
   rintro _ rfl -
   refine zG ⟨?_⟩
   refine fP (zA @hbw @hba) ⟨?_⟩
   refine aV [1,2,3,8,9,10,11,12,13] (i+1) ?_ (by omega) ?_
   ·rw [hsucc]
    exact ⟨by simp only;omega,hdn2⟩
   ·rw [hsucc,hMtk]
    simp only [dQ,zO]
    rfl
 ·have hD:=hend (by omega)
  have hLl:=hD.1
  rw [show ((aK (aI (bK d) c d.nx.length) d.sz.toNat (c 0) i).1.take i)=(aK (aI (bK d) c d.nx.length) d.sz.toNat (c 0) i).1 from kC (by omega)]
  generalize hR:(aK (aI (bK d) c d.nx.length) d.sz.toNat (c 0) i).2=R at hRl ⊢
  generalize hL:(aK (aI (bK d) c d.nx.length) d.sz.toNat (c 0) i).1=L at hLl hil ⊢
  refine aU ?_
  refine aU ?_
  refine bg ?_
  refine zQ ⟨?_⟩
  refine fO (by rfl) ?_
  refine gJ (by rfl) ?_
  refine aP 1 [8,9,10] (⟨[(8,.pref 0 [] 0),(9,.bool false),(10,.ptr (stripL [.int .i64 d.sz,.osl 1 R.length (iO (rI R)),.osl 1 (L.map (lg d c)).length (HL.bools (L.map (lg d c)))]) 0)],[(0,.optr [.int .i64 0,.nils,.nils])],1⟩:St) rfl ?_
  have hst:stripL [.int .i64 d.sz,.osl 1 R.length (iO (rI R)),.osl 1 (L.map (lg d c)).length (HL.bools (L.map (lg d c)))]=dC ⟨d.sz,rI R,L.map (lg d c)⟩:=by
   simp [stripL,HV.strip,yG,HL.bools_strip,dC,jf]
  rw [hst]
  simp only [dC]
  refine zF ⟨?_⟩
  refine ae ?_
  exact ⟨_,_,rfl,rfl,i,hD,by rw [hR,hL];simp [bG,dC,jf]⟩
end Go.Proofs.Ytlbdmpjnmfmnfaa
