import Derived.Test.YtlbdmpjnmfmnfaaFsE
import Derived.Test.YtlbdmpjnmfmnfaaFsV
set_option linter.unusedSimpArgs false
set_option linter.unusedVariables false
namespace Go.Proofs.Ytlbdmpjnmfmnfaa
open Go.RowKit Go.HL Go.FS
theorem Jd:HT Try.prog 101 [.nils] (fun r=>r=.nils):=by
 refine HT.of rfl Qz (Nat.le_of_ble_eq_true rfl) ?_
 unfold SA
 simp only [aY,Nat.reduceAdd]
 repeat (first|refine BR (by rfl) ?_|refine af ?_|refine ax ?_|refine ak ?_|refine ae ?_|refine TU (by rfl) ?_)
 refine ay ?_
 rfl
theorem NC (l:List Int) (h:0<l.length) (h2:l.length<=100000000):HT Try.prog 101 [.sl l.length (HL.ints l)] (fun r=>r=.osl 1 l.length (HL.ints l)):=by
 refine HT.of rfl Qz (Nat.le_of_ble_eq_true rfl) ?_
 unfold SA
 simp only [aY,Nat.reduceAdd]
 repeat (first|refine ah ?_|refine af ?_|refine au ?_|refine ak ?_|refine ae ?_|refine aI ?_|refine bK ?_|refine cO ?_|refine jv ?_|refine Na (by rfl) (by omega) ?_)
 refine ay ?_
 rfl
abbrev yH:=Option (Nat×List Nat×Nat)
def JU (p:yH) (l:List Nd):HV:=.omap ⟨.ints 2,p⟩ (l.map pk) (kT l.length)
def oz (ks:List Int):List HV:=ks.map ik
def nD (ks:List Int) (V:Int->List Nd) (p:Int->yH):List HV:=ks.map fun s=>JU (p s) (V s)
theorem Dw {ks:List Int} {V:Int->List Nd} {p:Int->yH} {s:Int} (h:s∈ks):(nD ks V p).getD (ks.idxOf s) .dead=JU (p s) (V s):=by
 have hj:ks.idxOf s<ks.length:=List.idxOf_lt_length_of_mem h
 simp [nD,List.getElem?_eq_getElem hj]
theorem xw {ks:List Int} {V:Int->List Nd} {p:Int->yH} {s:Int} (id:Nat) (h:s∈ks):mG id [] (oz ks) (nD ks V p) .nilm (.int .i64 s)=(.mref id [ks.idxOf s],true):=by
 unfold mG oz
 rw [show HV.int .i64 s=ik s from rfl,jW Nu,if_pos h]
 simp only [Dw h]
 rfl
theorem zN {ks:List Int} {V:Int->List Nd} {p:Int->yH} {s:Int} (id:Nat) (h:s ∉ ks):mG id [] (oz ks) (nD ks V p) .nilm (.int .i64 s)=(.nilm,false):=by
 unfold mG oz
 rw [show HV.int .i64 s=ik s from rfl,jW Nu,if_neg h]
theorem O0 {ks:List Int} {V:Int->List Nd} {s:Int} (h:s ∉ ks) (hV:V s=[]):rX ⟨.int .i64,none⟩ (oz ks) (nD ks V fun _=>none) (.int .i64 s) (.omap ⟨.ints 2,none⟩ [] [])=.omap ⟨.int .i64,none⟩ (oz (ks++[s])) (nD (ks++[s]) V fun _=>none):=by
 rw [show HV.int .i64 s=ik s from rfl]
 unfold oz
 rw [Dy Nu _ _ _ _ h]
 simp [nD,JU,hV]
theorem qG {ks:List Int} {V:Int->List Nd} {p:Int->yH} {s:Int} (h:s∈ks) (m:MK):aG (.omap m (oz ks) (nD ks V p)) [ks.idxOf s]=.omap ⟨.ints 2,p s⟩ ((V s).map pk) (kT (V s).length):=by
 simp only [aG];rw [Dw h];rfl
theorem CY {ks:List Int} {V:Int->List Nd} {p:Int->yH} {s:Int} (h:s∈ks) (hn:ks.Nodup) (m:MK) (q:yH) (l:List Nd):dK (.omap ⟨.ints 2,q⟩ (l.map pk) (kT l.length)) (.omap m (oz ks) (nD ks V p)) [ks.idxOf s]=.omap m (oz ks) (nD ks (fun t=>if t=s then l else V t) (fun t=>if t=s then q else p t)):=by
 simp only [dK]
 congr 1
 apply List.ext_getElem?
 intro i
 rw [List.getElem?_set]
 have hj:ks.idxOf s<ks.length:=List.idxOf_lt_length_of_mem h
 by_cases hi:ks.idxOf s=i
 ·subst hi
  simp [hj,nD,JU]
 ·simp only [if_neg hi]
  simp only [nD,List.getElem?_map]
  cases hki:ks[i]? with
  | none=>rfl
  | some t =>
   have:t≠s:=by
    rintro rfl
    obtain ⟨hlt,he⟩:=List.getElem?_eq_some_iff.1 hki
    exact hi (by rw [<- he];exact hn.idxOf_getElem i hlt)
   simp [this,JU]
theorem y5 {ks:List Int} {V:Int->List Nd} {s:Int} {y:Nd} (h:s∈ks) (hn:ks.Nodup) (m:MK):dK (.omap ⟨.ints 2,none⟩ ((ins y (V s)).map pk) (kT (ins y (V s)).length)) (.omap m (oz ks) (nD ks V fun _=>none)) [ks.idxOf s]=.omap m (oz ks) (nD ks (Kv V s y) fun _=>none):=by
 rw [CY h hn]
 congr 2
 funext t
 exact ite_self _
def jI (q:List Int×List Nd):List HV:=[.osl 1 q.1.length (HL.ints q.1),.osl 2 q.2.length (nY q.2)]
theorem ou (l:List (List Int×List Nd)):(recs jI l).length=l.length*2:=by
 simp only [recs]
 induction l with
 | nil=>rfl
 | cons q l ih=>simp only [List.flatMap_cons,List.length_append,ih,jI,List.length_cons,List.length_nil];omega
theorem qU (l:List (List Int×List Nd)):win (recs jI l) 0 (l.length*2)=recs jI l:=iI _ (ou l).symm
attribute [go_sem] ou qU
def wR (u:List Int):HV:=if u=[] then .nils else .sl u.length (HL.ints u)
theorem Qb {ks:List Int} {V:Int->List Nd} {p:Int->yH} {s:Int} (h:s∈ks) (hn:ks.Nodup) (m:MK) (q:yH):dK (.omap ⟨.ints 2,q⟩ ((V s).map pk) (kT (V s).length)) (.omap m (oz ks) (nD ks V p)) [ks.idxOf s]=.omap m (oz ks) (nD ks V (fun t=>if t=s then q else p t)):=by
 rw [CY h hn]
 congr 2
 funext t
 by_cases e:t=s
 ·simp [e]
 ·simp [e]
theorem IM {l:List Nd} {j:Nat} (h:j<l.length) (id:Nat) (p:List Nat):HV.tup [(l.map pk).getD j .dead,HL.look id p j ((kT l.length).getD j .dead)]=.tup [.agg [.int .i64 (l.getD j default).1,.int .i64 (l.getD j default).2],.bool true]:=by
 simp [h,kT,HL.look]
structure ItI (l:List Nd) (bs seen:List Nat) (T:List Nd):Prop where
 nd:T.Nodup
 sub:∀x∈T,x∈l
 seen:∀j,j<l.length->(bs.getD j 0∈seen <-> l.getD j default∈T)
theorem ItI.start {l:List Nd} {bs:List Nat}:ItI l bs [] []:=⟨by simp,by simp,by simp⟩
theorem BV {α:Type} [DecidableEq α] {l:List α} (h:l.Nodup) (d:α) {i j:Nat} (hi:i<l.length) (hj:j<l.length):l.getD i d=l.getD j d <-> i=j:=by
 constructor
 ·intro e
  simp only [List.getD_eq_getElem?_getD,List.getElem?_eq_getElem hi,List.getElem?_eq_getElem hj,Option.getD_some] at e
  rw [<- h.idxOf_getElem i hi,<- h.idxOf_getElem j hj,e]
 ·rintro rfl;rfl
theorem ItI.step {l:List Nd} {bs seen:List Nat} {T:List Nd} (h:ItI l bs seen T) (hl:l.Nodup) (hb:bs.Nodup) (hbl:bs.length=l.length) {j:Nat} (hj:j<l.length) (hs:bs.getD j 0 ∉ seen):ItI l bs (seen++[bs.getD j 0]) (T++[l.getD j default]):=by
 have hjm:l.getD j default∈l:=by rw [List.getD_eq_getElem?_getD,List.getElem?_eq_getElem hj];exact List.getElem_mem _
 refine ⟨?_,fun x hx=>?_,fun i hi=>?_⟩
 ·rw [List.nodup_append]
  exact ⟨h.nd,by simp,fun a ha b hb e=>by simp only [List.mem_singleton] at hb;subst hb;subst e;exact hs ((h.seen j hj).2 ha)⟩
 ·rcases List.mem_append.1 hx with hx|hx
  ·exact h.sub x hx
  ·simp only [List.mem_singleton] at hx;rw [hx];exact hjm
 ·simp only [List.mem_append,List.mem_singleton,h.seen i hi,BV hb 0 (by omega:i<bs.length) (by omega:j<bs.length),BV hl default hi hj]
theorem ItI.len {l:List Nd} {bs seen:List Nat} {T:List Nd} (h:ItI l bs seen T):T.length<=l.length:=fB h.nd h.sub
theorem ItI.done {l:List Nd} {bs seen:List Nat} {T:List Nd} (h:ItI l bs seen T) (hbl:bs.length=l.length) (hd:∀b∈bs,b∈seen) (x:Nd):x∈T <-> x∈l:=by
 refine ⟨h.sub x,fun hx=>?_⟩
 obtain ⟨j,hj,he⟩:=List.getElem_of_mem hx
 have h2:=(h.seen j hj).1 (hd _ (by rw [List.getD_eq_getElem?_getD,List.getElem?_eq_getElem (by omega)];exact List.getElem_mem _))
 rw [List.getD_eq_getElem?_getD,List.getElem?_eq_getElem hj] at h2
 simpa [he] using h2
set_option maxHeartbeats 16000000 in
theorem DF (fin:List Bool) (al:List A) (w:List Int) (G S:List Nd) (u:List Int) (W:HV) (LF:List (List A)) (hLF:bD (·.f) fin.length al=LF) (hW:(W=.nils/\u=[])\/(W=.sl u.length (HL.ints u)/\0<u.length)) (hv:okF fin al=true) (hw:w.length<=1024) (hG:∀x,x∈G <-> FS.Good fin al w x) (hGl:G.length<=4194304) (hS:∀x,x∈S <-> FS.At fin al w u x) (hu:u.length<=8388608) (ks:List Int) (V:Int->List Nd) (hln:LN fin al w S S.length ks V) :
  hx Try.prog [.c (.loop J9),.b 4,.c JY] (finish [4] fun r=>∃rows,r=.osl 2 rows.length (recs jI rows)/\rows.map (·.1)=ext fin al w u/\∀q∈rows,Row fin al w G.length q)
   ⟨[(0,.ptr [.sl w.length (HL.ints w),.sl LF.length (eU LF),.rmap ⟨.ints 2,none⟩ (G.map pk) (kT G.length)] 0),(3,.pref 0 [] 0),(5,.mref 1 []),(12,.ref 2 [] 2 0 0),(67,.int .i64 0)],[(0,.optr [W,.sl S.length (nY S)]),(1,.omap ⟨.int .i64,none⟩ (oz ks) (nD ks V fun _=>none)),(2,.osl 2 0 [])],3⟩:=by
 have hk:vU al:=fun a ha=>by have:=fD hv ha;omega
 have hwide:=fun T=>Az fin al w G T hv hw hG hGl
 rw [hLF] at hwide
 simp only [runT] at hwide
 refine dn [0,3,5,12,67] (fun s:Nat×List (List Int×List Nd)×(Int->yH)=>s.1<=64/\s.2.1.map (·.1)=ET fin al w u s.1/\s.2.1.length<=s.1/\∀q∈s.2.1,Row fin al w G.length q)
  (fun s=>⟨[(0,.ptr [.sl w.length (HL.ints w),.sl LF.length (eU LF),.rmap ⟨.ints 2,none⟩ (G.map pk) (kT G.length)] 0),(3,.pref 0 [] 0),(5,.mref 1 []),(12,.ref 2 [] 2 0 s.2.1.length),(67,.int .i64 s.1)],[(0,.optr [W,.sl S.length (nY S)]),(1,.omap ⟨.int .i64,none⟩ (oz ks) (nD ks V s.2.2)),(2,.osl 2 s.2.1.length (recs jI s.2.1))],3⟩)
  (fun s=>64 - s.1) (0,[],fun _=>none) ⟨by simp,by simp [ET],by simp,by simp⟩ rfl ?_
 rintro ⟨k,rows,pn⟩ ⟨hk1,hrows,hrl,hrow⟩
 simp only at hk1 hrows hrl hrow ⊢
 by_cases hkl:k<64
 ·have hbeg:=QU hS hln (Nat.le_refl _) (s:=(k:Int)) (by omega)
  have hstep:=IE (fin:=fin) (al:=al) (w:=w) u k
  by_cases hs:(k:Int)∈ks
  ·have hne:=(hln.out _).2 hs
   rw [if_pos (hbeg.2 hne)] at hstep
   have hml:=xw (ks:=ks) (V:=V) (p:=pn) 1 hs
   have hng:=qG (V:=V) (p:=pn) hs ⟨.int .i64,none⟩
   repeat (first|refine ah ?_|refine af ?_|refine aF ?_|refine ax ?_|refine ak ?_|refine ae ?_|refine aK ?_|refine aI ?_|refine bK ?_|refine qH (by rfl) (by rfl) (by exact eY rfl) aJ ⟨rfl,rfl⟩ (by (try simp (disch:=omega) only [go_sem,reduceIte,Nat.reduceEqDiff,Nat.reduceAdd,Nat.reduceMul,hml]);try rfl) (by rfl) ?_)
   refine Tz rfl (by rfl) (by rfl) hng ?_
   intro k0 bs ck hb1 hb2 hb3
   rw [List.length_map] at hb1
   have hpin:=Qb (V:=V) (p:=pn) hs hln.nd ⟨.int .i64,none⟩ (some (k0,bs,ck))
   simp only [hpin]
   have hng2:=qG (V:=V) (p:=fun t=>if t=(k:Int) then some (k0,bs,ck) else pn t) hs ⟨.int .i64,none⟩
   simp only [if_true] at hng2
   generalize (fun t=>if t=(k:Int) then some (k0,bs,ck) else pn t)=pn' at hng2 ⊢
   have hVd:=hln.vnd (k:Int)
   have hVc:=hln.card hG (k:Int)
   have hVdn:=fun y=>hln.done (Nat.le_refl _) (s:=(k:Int)) (y:=y)
   have hcl:=fun T hT y=>NS hS hln (Nat.le_refl _) (s:=(k:Int)) (by omega) T hT y
   generalize V (k:Int)=l at hb1 hng2 hVd hVc hVdn hcl hne
   repeat (first|refine af ?_|refine aK ?_)
   refine dn [0,3,5,12,13,14,67,73] (fun s:List Nat×List Nd=>ItI l bs s.1 s.2)
    (fun s=>⟨[(0,.ptr [.sl w.length (HL.ints w),.sl LF.length (eU LF),.rmap ⟨.ints 2,none⟩ (G.map pk) (kT G.length)] 0),(3,.pref 0 [] 0),(5,.mref 1 []),(12,.ref 2 [] 2 0 rows.length),(13,.int .i64 k),(14,.ref 3 [] 2 0 s.2.length),(67,.int .i64 k),(73,.mref 4 [])],[(0,.optr [W,.sl S.length (nY S)]),(1,.omap ⟨.int .i64,none⟩ (oz ks) (nD ks V pn')),(2,.osl 2 rows.length (recs jI rows)),(3,.osl 2 s.2.length (nY s.2)),(4,.oitr (k0+1) ck s.1 ck)],5⟩)
    (fun s=>l.length - s.2.length) ([],[]) .start rfl ?_
   rintro ⟨seen,T⟩ hit
   simp only at hit ⊢
   have hTl:=hit.len
   refine ak ?_
   refine ae ?_
   refine TG (id:=1) (path:=[ks.idxOf (k:Int)]) (by rfl) (by rfl) (by rfl) (by simp) hng2 hb3 (Nat.le_refl _) (fun hd=>?_) (fun j hj1 hj2 hj3=>?_)
   ·have hTd:=hit.done hb1 hd
    have hT0:0<T.length:=by
     obtain ⟨y,hy⟩:=List.exists_mem_of_ne_nil _ hne
     exact List.length_pos_of_mem ((hTd y).2 hy)
    have hTg:∀x∈T,FS.Good fin al w x:=fun x hx=>by
     obtain ⟨_,_,_,_,hg⟩:=(hVdn x).1 ((hTd x).1 hx)
     exact hg
    have hwd:=hwide T hTg (by omega)
    rcases hW with ⟨rfl,rfl⟩|⟨rfl,hu0⟩
    ·repeat (first|refine ah ?_|refine aW ?_|refine af ?_|refine jA (by rfl) aQ aJ ?_|refine fG (by rfl) ?_|refine bZ (by rfl) ?_|refine ax ?_|refine au ?_|refine ak ?_|refine ae ?_|refine bP ?_|refine aH ?_)
     refine bT bH dw (Jd) ?_
     rintro _ rfl
     refine ⟨bJ,_,_,_,_,_,gY,(by decide),bF,?_⟩
     repeat (first|refine ah ?_|refine cO ?_|refine Ur dZ (by rfl) aJ sK VA (by omega) iC ?_)
     refine Bi [] [] bH Eo RH rfl (by decide) (hwd) ?_
     rintro _ outs ⟨L,rfl,hL,hLl⟩ hol
     obtain rfl:=List.eq_nil_of_length_eq_zero hol
     refine ⟨_,_,_,_,_,gY,(by decide),IC,?_⟩
     repeat (first|refine ah ?_|refine af ?_|refine kF (by rfl) (by rfl) (by (try simp (disch:=omega) only [go_sem,Int.reduceAdd,Int.reduceSub,Int.reduceMul,ou,qU]);try rfl) ?_|refine ae ?_|refine gV ?_|refine tN dZ bH aO jh (by simp) (by rfl) (by rfl) (by rfl) ?_|refine gZ dZ (by rfl) aJ sK kz bQ aO dZ (by omega) iC aQ (by (try simp (disch:=omega) only [go_sem,reduceIte,Nat.reduceEqDiff,Nat.reduceAdd,Nat.reduceMul,ou,qU]);try rfl) aO (by rfl) ?_|refine bY ?_)
     have hsn:=rf (g:=jI) rows (([]:List Int)++[(k:Int)],L)
     have hrl1:(rows++[(([]:List Int)++[(k:Int)],L)]).length=rows.length+1:=by simp
     have hul:(([]:List Int)++[(k:Int)]).length=([]:List Int).length+1:=by simp
     exact dS [0,3,5,12,67] (k+1,rows++[(([]:List Int)++[(k:Int)],L)],pn') ⟨hkl,by simp only [List.map_append,hrows,hstep];rfl,by simp only [hrl1];omega,fun q hq=>by
      rcases List.mem_append.1 hq with hq|hq
      ·exact hrow q hq
      ·simp only [List.mem_singleton] at hq
       subst hq
       exact ⟨fun x=>(hL x).trans (hcl T hTd x),by simp only;omega⟩⟩ iH (by simp only [hrl1,<- hsn,jI,hul];rfl)
    ·repeat (first|refine ah ?_|refine aW ?_|refine af ?_|refine jA (by rfl) aQ aJ ?_|refine fG (by rfl) ?_|refine bZ (by rfl) ?_|refine ax ?_|refine au ?_|refine ak ?_|refine ae ?_|refine bP ?_|refine aH ?_)
     refine bT bH dw (NC u hu0 (by omega)) ?_
     rintro _ rfl
     refine ⟨bJ,_,_,_,_,_,gY,(by decide),bF,?_⟩
     repeat (first|refine ah ?_|refine cO ?_|refine jv ?_)
     refine Bi [] [] bH Eo RH rfl (by decide) (hwd) ?_
     rintro _ outs ⟨L,rfl,hL,hLl⟩ hol
     obtain rfl:=List.eq_nil_of_length_eq_zero hol
     refine ⟨_,_,_,_,_,gY,(by decide),IC,?_⟩
     repeat (first|refine ah ?_|refine af ?_|refine kF (by rfl) (by rfl) (by (try simp (disch:=omega) only [go_sem,Int.reduceAdd,Int.reduceSub,Int.reduceMul,ou,qU]);try rfl) ?_|refine ae ?_|refine gV ?_|refine tN dZ bH aO jh (by simp) (by rfl) (by rfl) (by rfl) ?_|refine gZ dZ (by rfl) aJ sK kz bQ aO dZ (by omega) iC aQ (by (try simp (disch:=omega) only [go_sem,reduceIte,Nat.reduceEqDiff,Nat.reduceAdd,Nat.reduceMul,ou,qU]);try rfl) aO (by rfl) ?_|refine bY ?_)
     have hsn:=rf (g:=jI) rows (u++[(k:Int)],L)
     have hrl1:(rows++[(u++[(k:Int)],L)]).length=rows.length+1:=by simp
     have hul:(u++[(k:Int)]).length=u.length+1:=by simp
     exact dS [0,3,5,12,67] (k+1,rows++[(u++[(k:Int)],L)],pn') ⟨hkl,by simp only [List.map_append,hrows,hstep];rfl,by simp only [hrl1];omega,fun q hq=>by
      rcases List.mem_append.1 hq with hq|hq
      ·exact hrow q hq
      ·simp only [List.mem_singleton] at hq
       subst hq
       exact ⟨fun x=>(hL x).trans (hcl T hTd x),by simp only;omega⟩⟩ iH (by simp only [hrl1,<- hsn,jI,hul];rfl)
   ·rw [List.length_map] at hj1
    have hst:=hit.step hVd hb2 hb1 hj1 hj3
    have hst2:=hst.len
    have hl1:(T++[l.getD j default]).length=T.length+1:=by simp
    repeat (first|refine af ?_|refine jA (by rfl) aQ aJ ?_|refine ax ?_|refine ak ?_|refine ae ?_|refine aK ?_|refine aI ?_)
    refine RN (id:=1) (path:=[ks.idxOf (k:Int)]) (by rfl) (by rfl) (by rfl) (by simp) hng2 (by rw [List.length_map];exact hj1) (IM hj1 _ _) ?_
    repeat (first|refine ah ?_|refine af ?_|refine jA (by rfl) aQ aJ ?_|refine ae ?_|refine gV ?_|refine gq ?_|refine dG ?_|refine cO ?_|refine bI dZ ?_|refine jv ?_)
    exact dS [0,3,5,12,13,14,67,73] (seen++[bs.getD j 0],T++[l.getD j default]) hst (by simp only [hl1];omega) (by simp only [hl1];rfl)
  ·have hVn:V (k:Int)=[]:=Classical.byContradiction fun h=>hs ((hln.out _).1 h)
   rw [if_neg (fun h=>hbeg.1 h hVn)] at hstep
   have hml:=zN (ks:=ks) (V:=V) (p:=pn) 1 hs
   repeat (first|refine ah ?_|refine af ?_|refine aF ?_|refine ax ?_|refine ak ?_|refine ae ?_|refine aK ?_|refine aI ?_|refine bK ?_|refine qH (by rfl) (by rfl) (by exact eY rfl) aJ ⟨rfl,rfl⟩ (by (try simp (disch:=omega) only [go_sem,reduceIte,Nat.reduceEqDiff,Nat.reduceAdd,Nat.reduceMul,hml]);try rfl) (by rfl) ?_)
   refine OE rfl (by rfl) ?_
   repeat (first|refine af ?_|refine aK ?_)
   refine dn [0,3,5,12,14,67,73] (fun s:Unit=>True)
    (fun s=>⟨[(0,.ptr [.sl w.length (HL.ints w),.sl LF.length (eU LF),.rmap ⟨.ints 2,none⟩ (G.map pk) (kT G.length)] 0),(3,.pref 0 [] 0),(5,.mref 1 []),(12,.ref 2 [] 2 0 rows.length),(14,.ref 3 [] 2 0 0),(67,.int .i64 k),(73,.mref 4 [])],[(0,.optr [W,.sl S.length (nY S)]),(1,.omap ⟨.int .i64,none⟩ (oz ks) (nD ks V pn)),(2,.osl 2 rows.length (recs jI rows)),(3,.osl 2 0 []),(4,.oitr 0 0 [] 0)],5⟩)
    (fun s=>0) () trivial rfl ?_
   rintro ⟨⟩ -
   refine ak ?_
   refine ae ?_
   refine PH (by rfl) (by rfl) ?_
   repeat (first|refine ah ?_|refine af ?_|refine bM ?_|refine jA (by rfl) aQ aJ ?_|refine fG (by rfl) ?_|refine bZ (by rfl) ?_|refine au ?_|refine ak ?_|refine ae ?_|refine gV ?_|refine aI ?_|refine bP ?_)
   exact dS [0,3,5,12,67] (k+1,rows,pn) ⟨hkl,by rw [hrows,hstep],by simp only;omega,hrow⟩ iH rfl
 ·obtain rfl:k=64:=by omega
  repeat (first|refine ah ?_|refine af ?_|refine aF ?_|refine bZ (by rfl) ?_|refine au ?_|refine ak ?_|refine ae ?_)
  refine ay ?_
  exact ⟨rows,rfl,by rw [hrows,PO],hrow⟩
end Go.Proofs.Ytlbdmpjnmfmnfaa
