import Derived.Test.YtlbdmpjnmfmnfaaFsE
import Derived.Test.YtlbdmpjnmfmnfaaFsV
import Derived.Test.YtlbdmpjnmfmnfaaHlW
set_option linter.unusedSimpArgs false
set_option linter.unusedVariables false
set_option maxHeartbeats 16000000
namespace Go.Proofs.Ytlbdmpjnmfmnfaa
open Go.RowKit Go.HL Go.FS
theorem TB:HT Try.prog 101 [.nils] (fun r=>r=.nils):=by
 refine HT.of rfl aar (bF rfl) ?_
 unfold abp
 simp only [ay,Nat.reduceAdd]
 refine zFN ⟨?_⟩
 refine ae ?_
 rfl
theorem VC (l:List Int) (h:0<l.length) (h2:l.length<=100000000):HT Try.prog 101 [.sl l.length (HL.ints l)] (fun r=>r=.osl 1 l.length (HL.ints l)):=by
 refine HT.of rfl aar (bF rfl) ?_
 unfold abp
 simp only [ay,Nat.reduceAdd]
 refine zF ⟨?_⟩
 refine ae ?_
 rfl
abbrev Hw:=Option (Nat×List Nat×Nat)
def Wp (p:Hw) (l:List Nd):HV:=.omap ⟨.ints 2,p⟩ (l.map pk) (qh l.length)
def wM (ks:List Int):List HV:=ks.map ik
def uy (ks:List Int) (V:Int->List Nd) (p:Int->Hw):List HV:=ks.map fun s=>Wp (p s) (V s)
theorem ND {ks:List Int} {V:Int->List Nd} {p:Int->Hw} {s:Int} (h:s∈ks):(uy ks V p).getD (ks.idxOf s) .dead=Wp (p s) (V s):=by
 have hj:ks.idxOf s<ks.length:=List.idxOf_lt_length_of_mem h
 simp [uy,bn hj]
theorem Hm {ks:List Int} {V:Int->List Nd} {p:Int->Hw} {s:Int} (id:Nat) (h:s∈ks):o6 id [] (wM ks) (uy ks V p) .nilm (.int .i64 s)=(.mref id [ks.idxOf s],true):=by
 unfold o6 wM
 rw [show HV.int .i64 s=ik s from rfl,jU Vs,if_pos h]
 simp only [ND h]
 rfl
theorem IE {ks:List Int} {V:Int->List Nd} {p:Int->Hw} {s:Int} (id:Nat) (h:s ∉ ks):o6 id [] (wM ks) (uy ks V p) .nilm (.int .i64 s)=(.nilm,false):=by
 unfold o6 wM
 rw [show HV.int .i64 s=ik s from rfl,jU Vs,if_neg h]
theorem Ze {ks:List Int} {V:Int->List Nd} {s:Int} (h:s ∉ ks) (hV:V s=[]):zM ⟨.int .i64,none⟩ (wM ks) (uy ks V fun _=>none) (.int .i64 s) (.omap ⟨.ints 2,none⟩ [] [])=.omap ⟨.int .i64,none⟩ (wM (ks++[s])) (uy (ks++[s]) V fun _=>none):=by
 rw [show HV.int .i64 s=ik s from rfl]
 unfold wM
 rw [Ho Vs _ _ _ _ h]
 simp [uy,Wp,hV]
theorem zx {ks:List Int} {V:Int->List Nd} {p:Int->Hw} {s:Int} (h:s∈ks) (m:MK):ax (.omap m (wM ks) (uy ks V p)) [ks.idxOf s]=.omap ⟨.ints 2,p s⟩ ((V s).map pk) (qh (V s).length):=by
 simp only [ax];rw [ND h];rfl
theorem Nc {ks:List Int} {V:Int->List Nd} {p:Int->Hw} {s:Int} (h:s∈ks) (hn:ks.Nodup) (m:MK) (q:Hw) (l:List Nd):dh (.omap ⟨.ints 2,q⟩ (l.map pk) (qh l.length)) (.omap m (wM ks) (uy ks V p)) [ks.idxOf s]=.omap m (wM ks) (uy ks (fun t=>if t=s then l else V t) (fun t=>if t=s then q else p t)):=by
 simp only [dh]
 congr 1
 apply rF
 intro i
 rw [CW]
 have hj:ks.idxOf s<ks.length:=List.idxOf_lt_length_of_mem h
 by_cases hi:ks.idxOf s=i
 ·subst hi
  simp [hj,uy,Wp]
 ·simp only [if_neg hi]
  simp only [uy,fZ]
  cases hki:ks[i]? with
  | none=>rfl
  | some t =>
   have:t≠s:=by
    rintro rfl
    obtain ⟨hlt,he⟩:=zl026.1 hki
    exact hi (by rw [<- he];exact hn.idxOf_getElem i hlt)
   simp [this,Wp]
theorem Ji {ks:List Int} {V:Int->List Nd} {s:Int} {y:Nd} (h:s∈ks) (hn:ks.Nodup) (m:MK):dh (.omap ⟨.ints 2,none⟩ ((ins y (V s)).map pk) (qh (ins y (V s)).length)) (.omap m (wM ks) (uy ks V fun _=>none)) [ks.idxOf s]=.omap m (wM ks) (uy ks (XR V s y) fun _=>none):=by
 rw [Nc h hn]
 congr 2
 funext t
 exact ite_self _
def mF (q:List Int×List Nd):List HV:=[.osl 1 q.1.length (HL.ints q.1),.osl 2 q.2.length (BP q.2)]
theorem CY (l:List (List Int×List Nd)):(recs mF l).length=l.length*2:=by
 simp only [recs]
 induction l with
 | nil=>rfl
 | cons q l ih=>simp only [List.flatMap_cons,dQ,ih,mF,List.length_cons,List.length_nil];omega
theorem G9 (l:List (List Int×List Nd)):win (recs mF l) 0 (l.length*2)=recs mF l:=dw _ (CY l).symm
attribute [go_sem] CY G9
def wR (u:List Int):HV:=if u=[] then .nils else .sl u.length (HL.ints u)
theorem Zh {ks:List Int} {V:Int->List Nd} {p:Int->Hw} {s:Int} (h:s∈ks) (hn:ks.Nodup) (m:MK) (q:Hw):dh (.omap ⟨.ints 2,q⟩ ((V s).map pk) (qh (V s).length)) (.omap m (wM ks) (uy ks V p)) [ks.idxOf s]=.omap m (wM ks) (uy ks V (fun t=>if t=s then q else p t)):=by
 rw [Nc h hn]
 congr 2
 funext t
 by_cases e:t=s
 ·simp [e]
 ·simp [e]
theorem Um {l:List Nd} {j:Nat} (h:j<l.length) (id:Nat) (p:List Nat):HV.tup [(l.map pk).getD j .dead,HL.look id p j ((qh l.length).getD j .dead)]=.tup [.agg [.int .i64 (l.getD j default).1,.int .i64 (l.getD j default).2],.bool true]:=by
 simp [h,qh,HL.look]
structure ItI (l:List Nd) (bs seen:List Nat) (T:List Nd):Prop where
 nd:T.Nodup
 sub:∀x∈T,x∈l
 seen:∀j,j<l.length->(bs.getD j 0∈seen <-> l.getD j default∈T)
theorem ItI.start {l:List Nd} {bs:List Nat}:ItI l bs [] []:=⟨by simp,by simp,by simp⟩
theorem Oc {α:Type} [DecidableEq α] {l:List α} (h:l.Nodup) (d:α) {i j:Nat} (hi:i<l.length) (hj:j<l.length):l.getD i d=l.getD j d <-> i=j:=by
 constructor
 ·intro e
  simp only [bf,bn hi,bn hj,fV] at e
  rw [<- h.idxOf_getElem i hi,<- h.idxOf_getElem j hj,e]
 ·rintro rfl;rfl
theorem ItI.step {l:List Nd} {bs seen:List Nat} {T:List Nd} (h:ItI l bs seen T) (hl:l.Nodup) (hb:bs.Nodup) (hbl:bs.length=l.length) {j:Nat} (hj:j<l.length) (hs:bs.getD j 0 ∉ seen):ItI l bs (seen++[bs.getD j 0]) (T++[l.getD j default]):=by
 have hjm:l.getD j default∈l:=by rw [bf,bn hj];exact iD _
 refine ⟨?_,fun x hx=>?_,fun i hi=>?_⟩
 ·rw [zl008]
  exact ⟨h.nd,by simp,fun a ha b hb e=>by simp only [zl009] at hb;subst hb;subst e;exact hs ((h.seen j hj).2 ha)⟩
 ·rcases zl002.1 hx with hx|hx
  ·exact h.sub x hx
  ·simp only [zl009] at hx;rw [hx];exact hjm
 ·simp only [zl002,zl009,h.seen i hi,Oc hb 0 (by omega:i<bs.length) (by omega:j<bs.length),Oc hl default hi hj]
theorem ItI.len {l:List Nd} {bs seen:List Nat} {T:List Nd} (h:ItI l bs seen T):T.length<=l.length:=fB h.nd h.sub
theorem ItI.done {l:List Nd} {bs seen:List Nat} {T:List Nd} (h:ItI l bs seen T) (hbl:bs.length=l.length) (hd:∀b∈bs,b∈seen) (x:Nd):x∈T <-> x∈l:=by
 refine ⟨h.sub x,fun hx=>?_⟩
 obtain ⟨j,hj,he⟩:=uD hx
 have h2:=(h.seen j hj).1 (hd _ (by rw [bf,bn (by omega)];exact iD _))
 rw [bf,bn hj] at h2
 simpa [he] using h2
theorem NH (fin:List Bool) (al:List A) (w:List Int) (G S:List Nd) (u:List Int) (W:HV) (LF:List (List A)) (hLF:aT (·.f) fin.length al=LF) (hW:(W=.nils/\u=[])\/(W=.sl u.length (HL.ints u)/\0<u.length)) (hv:okF fin al=true) (hw:w.length<=1024) (hG:∀x,x∈G <-> FS.Good fin al w x) (hGl:G.length<=4194304) (hS:∀x,x∈S <-> FS.At fin al w u x) (hu:u.length<=8388608) (ks:List Int) (V:Int->List Nd) (hln:LN fin al w S S.length ks V) :
  hx Try.prog [.c (.loop WW),.b 4,.c Xm] (finish [4] fun r=>∃rows,r=.osl 2 rows.length (recs mF rows)/\rows.map (·.1)=ext fin al w u/\∀q∈rows,Row fin al w G.length q)
   ⟨[(0,.ptr [.sl w.length (HL.ints w),.sl LF.length (dH LF),.rmap ⟨.ints 2,none⟩ (G.map pk) (qh G.length)] 0),(3,.pref 0 [] 0),(5,.mref 1 []),(12,.ref 2 [] 2 0 0),(67,.int .i64 0)],[(0,.optr [W,.sl S.length (BP S)]),(1,.omap ⟨.int .i64,none⟩ (wM ks) (uy ks V fun _=>none)),(2,.osl 2 0 [])],3⟩:=by
 have hk:Eh al:=fun a ha=>by have:=gu hv ha;omega
 have hwide:=fun T=>JR fin al w G T hv hw hG hGl
 rw [hLF] at hwide
 simp only [runT] at hwide
 refine aF [0,3,5,12,67] (fun s:Nat×List (List Int×List Nd)×(Int->Hw)=>s.1<=64/\s.2.1.map (·.1)=QE fin al w u s.1/\s.2.1.length<=s.1/\∀q∈s.2.1,Row fin al w G.length q)
  (fun s=>⟨[(0,.ptr [.sl w.length (HL.ints w),.sl LF.length (dH LF),.rmap ⟨.ints 2,none⟩ (G.map pk) (qh G.length)] 0),(3,.pref 0 [] 0),(5,.mref 1 []),(12,.ref 2 [] 2 0 s.2.1.length),(67,.int .i64 s.1)],[(0,.optr [W,.sl S.length (BP S)]),(1,.omap ⟨.int .i64,none⟩ (wM ks) (uy ks V s.2.2)),(2,.osl 2 s.2.1.length (recs mF s.2.1))],3⟩)
  (fun s=>64 - s.1) (0,[],fun _=>none) ⟨by simp,by simp [QE],by simp,by simp⟩ rfl ?_
 rintro ⟨k,rows,pn⟩ ⟨hk1,hrows,hrl,hrow⟩
 simp only at hk1 hrows hrl hrow ⊢
 by_cases hkl:k<64
 ·have hbeg:=abk hS hln (aY _) (s:=(k:Int)) (by omega)
  have hstep:=Uu (fin:=fin) (al:=al) (w:=w) u k
  by_cases hs:(k:Int)∈ks
  ·have hne:=(hln.out _).2 hs
   rw [if_pos (hbeg.2 hne)] at hstep
   have hml:=Hm (ks:=ks) (V:=V) (p:=pn) 1 hs
   have hng:=zx (V:=V) (p:=pn) hs ⟨.int .i64,none⟩
   refine fP @hml ⟨?_⟩
   refine acf rfl (by rfl) (by rfl) hng ?_
   intro k0 bs ck hb1 hb2 hb3
   rw [List.length_map] at hb1
   have hpin:=Zh (V:=V) (p:=pn) hs hln.nd ⟨.int .i64,none⟩ (some (k0,bs,ck))
   simp only [hpin]
   have hng2:=zx (V:=V) (p:=fun t=>if t=(k:Int) then some (k0,bs,ck) else pn t) hs ⟨.int .i64,none⟩
   simp only [if_true] at hng2
   generalize (fun t=>if t=(k:Int) then some (k0,bs,ck) else pn t)=pn' at hng2 ⊢
   have hVd:=hln.vnd (k:Int)
   have hVc:=hln.card hG (k:Int)
   have hVdn:=fun y=>hln.done (aY _) (s:=(k:Int)) (y:=y)
   have hcl:=fun T hT y=>VO hS hln (aY _) (s:=(k:Int)) (by omega) T hT y
   generalize V (k:Int)=l at hb1 hng2 hVd hVc hVdn hcl hne
   refine zF ⟨?_⟩
   refine aF [0,3,5,12,13,14,67,73] (fun s:List Nat×List Nd=>ItI l bs s.1 s.2)
    (fun s=>⟨[(0,.ptr [.sl w.length (HL.ints w),.sl LF.length (dH LF),.rmap ⟨.ints 2,none⟩ (G.map pk) (qh G.length)] 0),(3,.pref 0 [] 0),(5,.mref 1 []),(12,.ref 2 [] 2 0 rows.length),(13,.int .i64 k),(14,.ref 3 [] 2 0 s.2.length),(67,.int .i64 k),(73,.mref 4 [])],[(0,.optr [W,.sl S.length (BP S)]),(1,.omap ⟨.int .i64,none⟩ (wM ks) (uy ks V pn')),(2,.osl 2 rows.length (recs mF rows)),(3,.osl 2 s.2.length (BP s.2)),(4,.oitr (k0+1) ck s.1 ck)],5⟩)
    (fun s=>l.length - s.2.length) ([],[]) .start rfl ?_
   rintro ⟨seen,T⟩ hit
   simp only at hit ⊢
   have hTl:=hit.len
   refine aU ?_
   refine bg ?_
   refine aaX (id:=1) (path:=[ks.idxOf (k:Int)]) (by rfl) (by rfl) (by rfl) (by simp) hng2 hb3 (aY _) (fun hd=>?_) (fun j hj1 hj2 hj3=>?_)
   ·have hTd:=hit.done hb1 hd
    have hT0:0<T.length:=by
     obtain ⟨y,hy⟩:=RZ _ hne
     exact List.length_pos_of_mem ((hTd y).2 hy)
    have hTg:∀x∈T,FS.Good fin al w x:=fun x hx=>by
     obtain ⟨_,_,_,_,hg⟩:=(hVdn x).1 ((hTd x).1 hx)
     exact hg
    have hwd:=hwide T hTg (by omega)
    rcases hW with ⟨rfl,rfl⟩|⟨rfl,hu0⟩
    ·refine zF ⟨?_⟩
     refine aX aG bz (TB) ?_
     rintro _ rfl
     refine zG ⟨?_⟩
     refine zF ⟨?_⟩
     refine zY [] [] aG Aw OM rfl (by decide) (hwd) ?_
     rintro _ outs ⟨L,rfl,hL,hLl⟩ hol
     obtain rfl:=gI hol
     refine ⟨_,_,_,_,_,IB,(by decide),DI,?_⟩
     refine fP (zA @CY @G9) ⟨?_⟩
     have hsn:=Ak (g:=mF) rows (([]:List Int)++[(k:Int)],L)
     have hrl1:(rows++[(([]:List Int)++[(k:Int)],L)]).length=rows.length+1:=by simp
     have hul:(([]:List Int)++[(k:Int)]).length=([]:List Int).length+1:=by simp
     exact aV [0,3,5,12,67] (k+1,rows++[(([]:List Int)++[(k:Int)],L)],pn') ⟨hkl,by simp only [oW,hrows,hstep];rfl,by simp only [hrl1];omega,fun q hq=>by
      rcases zl002.1 hq with hq|hq
      ·exact hrow q hq
      ·simp only [zl009] at hq
       subst hq
       exact ⟨fun x=>(hL x).trans (hcl T hTd x),by simp only;omega⟩⟩ iQ (by simp only [hrl1,<- hsn,mF,hul];rfl)
    ·refine zF ⟨?_⟩
     refine aX aG bz (VC u hu0 (by omega)) ?_
     rintro _ rfl
     refine zG ⟨?_⟩
     refine zF ⟨?_⟩
     refine zY [] [] aG Aw OM rfl (by decide) (hwd) ?_
     rintro _ outs ⟨L,rfl,hL,hLl⟩ hol
     obtain rfl:=gI hol
     refine ⟨_,_,_,_,_,IB,(by decide),DI,?_⟩
     refine fP (zA @CY @G9) ⟨?_⟩
     have hsn:=Ak (g:=mF) rows (u++[(k:Int)],L)
     have hrl1:(rows++[(u++[(k:Int)],L)]).length=rows.length+1:=by simp
     have hul:(u++[(k:Int)]).length=u.length+1:=by simp
     exact aV [0,3,5,12,67] (k+1,rows++[(u++[(k:Int)],L)],pn') ⟨hkl,by simp only [oW,hrows,hstep];rfl,by simp only [hrl1];omega,fun q hq=>by
      rcases zl002.1 hq with hq|hq
      ·exact hrow q hq
      ·simp only [zl009] at hq
       subst hq
       exact ⟨fun x=>(hL x).trans (hcl T hTd x),by simp only;omega⟩⟩ iQ (by simp only [hrl1,<- hsn,mF,hul];rfl)
   ·rw [List.length_map] at hj1
    have hst:=hit.step hVd hb2 hb1 hj1 hj3
    have hst2:=hst.len
    have hl1:(T++[l.getD j default]).length=T.length+1:=by simp
    refine zF ⟨?_⟩
    refine abd (id:=1) (path:=[ks.idxOf (k:Int)]) (by rfl) (by rfl) (by rfl) (by simp) hng2 (by rw [List.length_map];exact hj1) (Um hj1 _ _) ?_
    refine zF ⟨?_⟩
    exact aV [0,3,5,12,13,14,67,73] (seen++[bs.getD j 0],T++[l.getD j default]) hst (by simp only [hl1];omega) (by simp only [hl1];rfl)
  ·have hVn:V (k:Int)=[]:=Sm fun h=>hs ((hln.out _).1 h)
   rw [if_neg (fun h=>hbeg.1 h hVn)] at hstep
   have hml:=IE (ks:=ks) (V:=V) (p:=pn) 1 hs
   refine fP @hml ⟨?_⟩
   refine Z4 rfl (by rfl) ?_
   refine zF ⟨?_⟩
   refine aF [0,3,5,12,14,67,73] (fun s:Unit=>True)
    (fun s=>⟨[(0,.ptr [.sl w.length (HL.ints w),.sl LF.length (dH LF),.rmap ⟨.ints 2,none⟩ (G.map pk) (qh G.length)] 0),(3,.pref 0 [] 0),(5,.mref 1 []),(12,.ref 2 [] 2 0 rows.length),(14,.ref 3 [] 2 0 0),(67,.int .i64 k),(73,.mref 4 [])],[(0,.optr [W,.sl S.length (BP S)]),(1,.omap ⟨.int .i64,none⟩ (wM ks) (uy ks V pn)),(2,.osl 2 rows.length (recs mF rows)),(3,.osl 2 0 []),(4,.oitr 0 0 [] 0)],5⟩)
    (fun s=>0) () trivial rfl ?_
   rintro ⟨⟩ -
   refine aU ?_
   refine bg ?_
   refine YP (by rfl) (by rfl) ?_
   refine zF ⟨?_⟩
   exact aV [0,3,5,12,67] (k+1,rows,pn) ⟨hkl,by rw [hrows,hstep],by simp only;omega,hrow⟩ iQ rfl
 ·obtain rfl:k=64:=by omega
  refine zF ⟨?_⟩
  refine ae ?_
  exact ⟨rows,rfl,by rw [hrows,ZQ],hrow⟩
end Go.Proofs.Ytlbdmpjnmfmnfaa
