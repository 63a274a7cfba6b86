import Derived.Test.YtlbdmpjnmfmnfaaFsE
import Derived.Test.YtlbdmpjnmfmnfaaFsG
set_option linter.unusedSimpArgs false
set_option linter.unusedVariables false
namespace Go.Proofs.Ytlbdmpjnmfmnfaa
open Go.RowKit Go.HL Go.FS
theorem Hm:HT Try.prog 101 [.nils] (fun r=>r=.nils):=by
 refine HT.of rfl NU (Nat.le_of_ble_eq_true rfl) ?_
 unfold PZ
 simp only [aS,Nat.reduceAdd]
 repeat (first|refine SB (by rfl) ?_|refine af ?_|refine au ?_|refine ah ?_|refine ae ?_|refine Qk (by rfl) ?_)
 refine ax ?_
 rfl
theorem Kt (l:List Int) (h:0<l.length) (h2:l.length<=100000000):HT Try.prog 101 [.sl l.length (HL.ints l)] (fun r=>r=.osl 1 l.length (HL.ints l)):=by
 refine HT.of rfl NU (Nat.le_of_ble_eq_true rfl) ?_
 unfold PZ
 simp only [aS,Nat.reduceAdd]
 repeat (first|refine ag ?_|refine af ?_|refine ak ?_|refine ah ?_|refine ae ?_|refine aF ?_|refine dR rfl (by rfl) dI ?_|refine bW ?_|refine gW ?_|refine IP (by rfl) (by omega) ?_)
 refine ax ?_
 rfl
abbrev vV:=Option (Nat×List Nat×Nat)
def JF (p:vV) (l:List Nd):HV:=.omap ⟨.ints 2,p⟩ (l.map pk) (jU l.length)
def mr (ks:List Int):List HV:=ks.map ik
def lG (ks:List Int) (V:Int->List Nd) (p:Int->vV):List HV:=ks.map fun s=>JF (p s) (V s)
theorem Ae {ks:List Int} {V:Int->List Nd} {p:Int->vV} {s:Int} (h:s∈ks):(lG ks V p).getD (ks.idxOf s) .dead=JF (p s) (V s):=by
 have hj:ks.idxOf s<ks.length:=List.idxOf_lt_length_of_mem h
 simp [lG,List.getElem?_eq_getElem hj]
theorem wC {ks:List Int} {V:Int->List Nd} {p:Int->vV} {s:Int} (id:Nat) (h:s∈ks):lh id [] (mr ks) (lG ks V p) .nilm (.int .i64 s)=(.mref id [ks.idxOf s],true):=by
 unfold lh mr
 rw [show HV.int .i64 s=ik s from rfl,jo Jy,if_pos h]
 simp only [Ae h]
 rfl
theorem xK {ks:List Int} {V:Int->List Nd} {p:Int->vV} {s:Int} (id:Nat) (h:s ∉ ks):lh id [] (mr ks) (lG ks V p) .nilm (.int .i64 s)=(.nilm,false):=by
 unfold lh mr
 rw [show HV.int .i64 s=ik s from rfl,jo Jy,if_neg h]
theorem Nk {ks:List Int} {V:Int->List Nd} {s:Int} (h:s ∉ ks) (hV:V s=[]):qx ⟨.int .i64,none⟩ (mr ks) (lG ks V fun _=>none) (.int .i64 s) (.omap ⟨.ints 2,none⟩ [] [])=.omap ⟨.int .i64,none⟩ (mr (ks++[s])) (lG (ks++[s]) V fun _=>none):=by
 rw [show HV.int .i64 s=ik s from rfl]
 unfold mr
 rw [zD Jy _ _ _ _ h]
 simp [lG,JF,hV]
theorem o7 {ks:List Int} {V:Int->List Nd} {p:Int->vV} {s:Int} (h:s∈ks) (m:MK):aA (.omap m (mr ks) (lG ks V p)) [ks.idxOf s]=.omap ⟨.ints 2,p s⟩ ((V s).map pk) (jU (V s).length):=by
 simp only [aA];rw [Ae h];rfl
theorem Ah {ks:List Int} {V:Int->List Nd} {p:Int->vV} {s:Int} (h:s∈ks) (hn:ks.Nodup) (m:MK) (q:vV) (l:List Nd):dB (.omap ⟨.ints 2,q⟩ (l.map pk) (jU l.length)) (.omap m (mr ks) (lG ks V p)) [ks.idxOf s]=.omap m (mr ks) (lG ks (fun t=>if t=s then l else V t) (fun t=>if t=s then q else p t)):=by
 simp only [dB]
 congr 1
 apply List.ext_getElem?
 intro i
 rw [List.getElem?_set]
 have hj:ks.idxOf s<ks.length:=List.idxOf_lt_length_of_mem h
 by_cases hi:ks.idxOf s=i
 ·subst hi
  simp [hj,lG,JF]
 ·simp only [if_neg hi]
  simp only [lG,List.getElem?_map]
  cases hki:ks[i]? with
  | none=>rfl
  | some t =>
   have:t≠s:=by
    rintro rfl
    obtain ⟨hlt,he⟩:=List.getElem?_eq_some_iff.1 hki
    exact hi (by rw [<- he];exact hn.idxOf_getElem i hlt)
   simp [this,JF]
theorem xR {ks:List Int} {V:Int->List Nd} {s:Int} {y:Nd} (h:s∈ks) (hn:ks.Nodup) (m:MK):dB (.omap ⟨.ints 2,none⟩ ((ins y (V s)).map pk) (jU (ins y (V s)).length)) (.omap m (mr ks) (lG ks V fun _=>none)) [ks.idxOf s]=.omap m (mr ks) (lG ks (I9 V s y) fun _=>none):=by
 rw [Ah h hn]
 congr 2
 funext t
 exact ite_self _
def ja (q:List Int×List Nd):List HV:=[.osl 1 q.1.length (HL.ints q.1),.osl 2 q.2.length (qX q.2)]
theorem mD (l:List (List Int×List Nd)):(recs ja l).length=l.length*2:=by
 simp only [recs]
 induction l with
 | nil=>rfl
 | cons q l ih=>simp only [List.flatMap_cons,List.length_append,ih,ja,List.length_cons,List.length_nil];omega
theorem oJ (l:List (List Int×List Nd)):win (recs ja l) 0 (l.length*2)=recs ja l:=jd _ (mD l).symm
attribute [go_sem] mD oJ
def wR (u:List Int):HV:=if u=[] then .nils else .sl u.length (HL.ints u)
theorem Lp {ks:List Int} {V:Int->List Nd} {p:Int->vV} {s:Int} (h:s∈ks) (hn:ks.Nodup) (m:MK) (q:vV):dB (.omap ⟨.ints 2,q⟩ ((V s).map pk) (jU (V s).length)) (.omap m (mr ks) (lG ks V p)) [ks.idxOf s]=.omap m (mr ks) (lG ks V (fun t=>if t=s then q else p t)):=by
 rw [Ah h hn]
 congr 2
 funext t
 by_cases e:t=s
 ·simp [e]
 ·simp [e]
theorem Gj {l:List Nd} {j:Nat} (h:j<l.length) (id:Nat) (p:List Nat):HV.tup [(l.map pk).getD j .dead,HL.look id p j ((jU l.length).getD j .dead)]=.tup [.agg [.int .i64 (l.getD j default).1,.int .i64 (l.getD j default).2],.bool true]:=by
 simp [h,jU,HL.look]
structure ItI (l:List Nd) (bs seen:List Nat) (T:List Nd):Prop where
 nd:T.Nodup
 sub:∀x∈T,x∈l
 seen:∀j,j<l.length->(bs.getD j 0∈seen <-> l.getD j default∈T)
theorem ItI.start {l:List Nd} {bs:List Nat}:ItI l bs [] []:=⟨by simp,by simp,by simp⟩
theorem AO {α:Type} [DecidableEq α] {l:List α} (h:l.Nodup) (d:α) {i j:Nat} (hi:i<l.length) (hj:j<l.length):l.getD i d=l.getD j d <-> i=j:=by
 constructor
 ·intro e
  simp only [List.getD_eq_getElem?_getD,List.getElem?_eq_getElem hi,List.getElem?_eq_getElem hj,Option.getD_some] at e
  rw [<- h.idxOf_getElem i hi,<- h.idxOf_getElem j hj,e]
 ·rintro rfl;rfl
theorem ItI.step {l:List Nd} {bs seen:List Nat} {T:List Nd} (h:ItI l bs seen T) (hl:l.Nodup) (hb:bs.Nodup) (hbl:bs.length=l.length) {j:Nat} (hj:j<l.length) (hs:bs.getD j 0 ∉ seen):ItI l bs (seen++[bs.getD j 0]) (T++[l.getD j default]):=by
 have hjm:l.getD j default∈l:=by rw [List.getD_eq_getElem?_getD,List.getElem?_eq_getElem hj];exact List.getElem_mem _
 refine ⟨?_,fun x hx=>?_,fun i hi=>?_⟩
 ·rw [List.nodup_append]
  exact ⟨h.nd,by simp,fun a ha b hb e=>by simp only [List.mem_singleton] at hb;subst hb;subst e;exact hs ((h.seen j hj).2 ha)⟩
 ·rcases List.mem_append.1 hx with hx|hx
  ·exact h.sub x hx
  ·simp only [List.mem_singleton] at hx;rw [hx];exact hjm
 ·simp only [List.mem_append,List.mem_singleton,h.seen i hi,AO hb 0 (by omega:i<bs.length) (by omega:j<bs.length),AO hl default hi hj]
theorem ItI.len {l:List Nd} {bs seen:List Nat} {T:List Nd} (h:ItI l bs seen T):T.length<=l.length:=fD h.nd h.sub
theorem ItI.done {l:List Nd} {bs seen:List Nat} {T:List Nd} (h:ItI l bs seen T) (hbl:bs.length=l.length) (hd:∀b∈bs,b∈seen) (x:Nd):x∈T <-> x∈l:=by
 refine ⟨h.sub x,fun hx=>?_⟩
 obtain ⟨j,hj,he⟩:=List.getElem_of_mem hx
 have h2:=(h.seen j hj).1 (hd _ (by rw [List.getD_eq_getElem?_getD,List.getElem?_eq_getElem (by omega)];exact List.getElem_mem _))
 rw [List.getD_eq_getElem?_getD,List.getElem?_eq_getElem hj] at h2
 simpa [he] using h2
set_option maxHeartbeats 16000000 in
theorem zC (fin:List Bool) (al:List A) (w:List Int) (G S:List Nd) (u:List Int) (W:HV) (LF:List (List A)) (hLF:bz (·.f) fin.length al=LF) (hW:(W=.nils/\u=[])\/(W=.sl u.length (HL.ints u)/\0<u.length)) (hv:okF fin al=true) (hw:w.length<=1024) (hG:∀x,x∈G <-> FS.Good fin al w x) (hGl:G.length<=4194304) (hS:∀x,x∈S <-> FS.At fin al w u x) (hu:u.length<=8388608) (ks:List Int) (V:Int->List Nd) (hln:LN fin al w S S.length ks V) :
  hx Try.prog [.c (.loop Ko),.b 4,.c IJ] (finish [4] fun r=>∃rows,r=.osl 2 rows.length (recs ja rows)/\rows.map (·.1)=ext fin al w u/\∀q∈rows,Row fin al w G.length q)
   ⟨[(0,.ptr [.sl w.length (HL.ints w),.sl LF.length (dV LF),.rmap ⟨.ints 2,none⟩ (G.map pk) (jU G.length)] 0),(3,.pref 0 [] 0),(5,.mref 1 []),(12,.ref 2 [] 2 0 0),(67,.int .i64 0)],[(0,.optr [W,.sl S.length (qX S)]),(1,.omap ⟨.int .i64,none⟩ (mr ks) (lG ks V fun _=>none)),(2,.osl 2 0 [])],3⟩:=by
 have hk:uz al:=fun a ha=>by have:=gJ hv ha;omega
 have hwide:=fun T=>yD fin al w G T hv hw hG hGl
 rw [hLF] at hwide
 simp only [runT] at hwide
 refine cu [0,3,5,12,67] (fun s:Nat×List (List Int×List Nd)×(Int->vV)=>s.1<=64/\s.2.1.map (·.1)=Dc fin al w u s.1/\s.2.1.length<=s.1/\∀q∈s.2.1,Row fin al w G.length q)
  (fun s=>⟨[(0,.ptr [.sl w.length (HL.ints w),.sl LF.length (dV LF),.rmap ⟨.ints 2,none⟩ (G.map pk) (jU G.length)] 0),(3,.pref 0 [] 0),(5,.mref 1 []),(12,.ref 2 [] 2 0 s.2.1.length),(67,.int .i64 s.1)],[(0,.optr [W,.sl S.length (qX S)]),(1,.omap ⟨.int .i64,none⟩ (mr ks) (lG ks V s.2.2)),(2,.osl 2 s.2.1.length (recs ja s.2.1))],3⟩)
  (fun s=>64 - s.1) (0,[],fun _=>none) ⟨by simp,by simp [Dc],by simp,by simp⟩ rfl ?_
 rintro ⟨k,rows,pn⟩ ⟨hk1,hrows,hrl,hrow⟩
 simp only at hk1 hrows hrl hrow ⊢
 by_cases hkl:k<64
 ·have hbeg:=PT hS hln (Nat.le_refl _) (s:=(k:Int)) (by omega)
  have hstep:=FI (fin:=fin) (al:=al) (w:=w) u k
  by_cases hs:(k:Int)∈ks
  ·have hne:=(hln.out _).2 hs
   rw [if_pos (hbeg.2 hne)] at hstep
   have hml:=wC (ks:=ks) (V:=V) (p:=pn) 1 hs
   have hng:=o7 (V:=V) (p:=pn) hs ⟨.int .i64,none⟩
   repeat (first|refine ag ?_|refine af ?_|refine az ?_|refine au ?_|refine ah ?_|refine ae ?_|refine aH ?_|refine aF ?_|refine dR rfl (by rfl) dI ?_|refine pF (by rfl) (by rfl) (by exact eY rfl) aO ⟨rfl,rfl⟩ (by (try simp (disch:=omega) only [go_sem,reduceIte,Nat.reduceEqDiff,Nat.reduceAdd,Nat.reduceMul,hml]);try rfl) (by rfl) ?_)
   refine Oi rfl (by rfl) (by rfl) hng ?_
   intro k0 bs ck hb1 hb2 hb3
   rw [List.length_map] at hb1
   have hpin:=Lp (V:=V) (p:=pn) hs hln.nd ⟨.int .i64,none⟩ (some (k0,bs,ck))
   simp only [hpin]
   have hng2:=o7 (V:=V) (p:=fun t=>if t=(k:Int) then some (k0,bs,ck) else pn t) hs ⟨.int .i64,none⟩
   simp only [if_true] at hng2
   generalize (fun t=>if t=(k:Int) then some (k0,bs,ck) else pn t)=pn' at hng2 ⊢
   have hVd:=hln.vnd (k:Int)
   have hVc:=hln.card hG (k:Int)
   have hVdn:=fun y=>hln.done (Nat.le_refl _) (s:=(k:Int)) (y:=y)
   have hcl:=fun T hT y=>Ic hS hln (Nat.le_refl _) (s:=(k:Int)) (by omega) T hT y
   generalize V (k:Int)=l at hb1 hng2 hVd hVc hVdn hcl hne
   repeat (first|refine af ?_|refine aH ?_)
   refine cu [0,3,5,12,13,14,67,73] (fun s:List Nat×List Nd=>ItI l bs s.1 s.2)
    (fun s=>⟨[(0,.ptr [.sl w.length (HL.ints w),.sl LF.length (dV LF),.rmap ⟨.ints 2,none⟩ (G.map pk) (jU G.length)] 0),(3,.pref 0 [] 0),(5,.mref 1 []),(12,.ref 2 [] 2 0 rows.length),(13,.int .i64 k),(14,.ref 3 [] 2 0 s.2.length),(67,.int .i64 k),(73,.mref 4 [])],[(0,.optr [W,.sl S.length (qX S)]),(1,.omap ⟨.int .i64,none⟩ (mr ks) (lG ks V pn')),(2,.osl 2 rows.length (recs ja rows)),(3,.osl 2 s.2.length (qX s.2)),(4,.oitr (k0+1) ck s.1 ck)],5⟩)
    (fun s=>l.length - s.2.length) ([],[]) .start rfl ?_
   rintro ⟨seen,T⟩ hit
   simp only at hit ⊢
   have hTl:=hit.len
   refine ah ?_
   refine ae ?_
   refine Po (id:=1) (path:=[ks.idxOf (k:Int)]) (by rfl) (by rfl) (by rfl) (by simp) hng2 hb3 (Nat.le_refl _) (fun hd=>?_) (fun j hj1 hj2 hj3=>?_)
   ·have hTd:=hit.done hb1 hd
    have hT0:0<T.length:=by
     obtain ⟨y,hy⟩:=List.exists_mem_of_ne_nil _ hne
     exact List.length_pos_of_mem ((hTd y).2 hy)
    have hTg:∀x∈T,FS.Good fin al w x:=fun x hx=>by
     obtain ⟨_,_,_,_,hg⟩:=(hVdn x).1 ((hTd x).1 hx)
     exact hg
    have hwd:=hwide T hTg (by omega)
    rcases hW with ⟨rfl,rfl⟩|⟨rfl,hu0⟩
    ·repeat (first|refine ag ?_|refine aV ?_|refine af ?_|refine dh ?_|refine eU (by rfl) ?_|refine bK (by rfl) ?_|refine au ?_|refine ak ?_|refine ah ?_|refine ae ?_|refine bU ?_|refine aJ ?_)
     refine bI bD cO (Hm) ?_
     rintro _ rfl
     refine ⟨bF,_,_,_,_,_,gq,(by decide),bC,?_⟩
     repeat (first|refine ag ?_|refine bW ?_|refine QH dI (by rfl) aO rE Tv (by omega) gX ?_)
     refine yR [] [] bD BZ Ol rfl (by decide) (hwd) ?_
     rintro _ outs ⟨L,rfl,hL,hLl⟩ hol
     obtain rfl:=List.eq_nil_of_length_eq_zero hol
     refine ⟨_,_,_,_,_,gq,(by decide),Hg,?_⟩
     repeat (first|refine ag ?_|refine af ?_|refine jI (by rfl) (by rfl) (by (try simp (disch:=omega) only [go_sem,Int.reduceAdd,Int.reduceSub,Int.reduceMul,mD,oJ]);try rfl) ?_|refine ae ?_|refine fE ?_|refine vF dI bD aQ jJ (by simp) (by rfl) (by rfl) (by rfl) ?_|refine gm dI (by rfl) aO rE jG bH aQ dI (by omega) gX aT (by (try simp (disch:=omega) only [go_sem,reduceIte,Nat.reduceEqDiff,Nat.reduceAdd,Nat.reduceMul,mD,oJ]);try rfl) aQ (by rfl) ?_|refine cZ ?_)
     have hsn:=qh (g:=ja) rows (([]:List Int)++[(k:Int)],L)
     have hrl1:(rows++[(([]:List Int)++[(k:Int)],L)]).length=rows.length+1:=by simp
     have hul:(([]:List Int)++[(k:Int)]).length=([]:List Int).length+1:=by simp
     exact dm [0,3,5,12,67] (k+1,rows++[(([]:List Int)++[(k:Int)],L)],pn') ⟨hkl,by simp only [List.map_append,hrows,hstep];rfl,by simp only [hrl1];omega,fun q hq=>by
      rcases List.mem_append.1 hq with hq|hq
      ·exact hrow q hq
      ·simp only [List.mem_singleton] at hq
       subst hq
       exact ⟨fun x=>(hL x).trans (hcl T hTd x),by simp only;omega⟩⟩ iU (by simp only [hrl1,<- hsn,ja,hul];rfl)
    ·repeat (first|refine ag ?_|refine aV ?_|refine af ?_|refine dh ?_|refine eU (by rfl) ?_|refine bK (by rfl) ?_|refine au ?_|refine ak ?_|refine ah ?_|refine ae ?_|refine bU ?_|refine aJ ?_)
     refine bI bD cO (Kt u hu0 (by omega)) ?_
     rintro _ rfl
     refine ⟨bF,_,_,_,_,_,gq,(by decide),bC,?_⟩
     repeat (first|refine ag ?_|refine bW ?_|refine gW ?_)
     refine yR [] [] bD BZ Ol rfl (by decide) (hwd) ?_
     rintro _ outs ⟨L,rfl,hL,hLl⟩ hol
     obtain rfl:=List.eq_nil_of_length_eq_zero hol
     refine ⟨_,_,_,_,_,gq,(by decide),Hg,?_⟩
     repeat (first|refine ag ?_|refine af ?_|refine jI (by rfl) (by rfl) (by (try simp (disch:=omega) only [go_sem,Int.reduceAdd,Int.reduceSub,Int.reduceMul,mD,oJ]);try rfl) ?_|refine ae ?_|refine fE ?_|refine vF dI bD aQ jJ (by simp) (by rfl) (by rfl) (by rfl) ?_|refine gm dI (by rfl) aO rE jG bH aQ dI (by omega) gX aT (by (try simp (disch:=omega) only [go_sem,reduceIte,Nat.reduceEqDiff,Nat.reduceAdd,Nat.reduceMul,mD,oJ]);try rfl) aQ (by rfl) ?_|refine cZ ?_)
     have hsn:=qh (g:=ja) rows (u++[(k:Int)],L)
     have hrl1:(rows++[(u++[(k:Int)],L)]).length=rows.length+1:=by simp
     have hul:(u++[(k:Int)]).length=u.length+1:=by simp
     exact dm [0,3,5,12,67] (k+1,rows++[(u++[(k:Int)],L)],pn') ⟨hkl,by simp only [List.map_append,hrows,hstep];rfl,by simp only [hrl1];omega,fun q hq=>by
      rcases List.mem_append.1 hq with hq|hq
      ·exact hrow q hq
      ·simp only [List.mem_singleton] at hq
       subst hq
       exact ⟨fun x=>(hL x).trans (hcl T hTd x),by simp only;omega⟩⟩ iU (by simp only [hrl1,<- hsn,ja,hul];rfl)
   ·rw [List.length_map] at hj1
    have hst:=hit.step hVd hb2 hb1 hj1 hj3
    have hst2:=hst.len
    have hl1:(T++[l.getD j default]).length=T.length+1:=by simp
    repeat (first|refine af ?_|refine dh ?_|refine au ?_|refine ah ?_|refine ae ?_|refine aH ?_|refine aF ?_)
    refine OI (id:=1) (path:=[ks.idxOf (k:Int)]) (by rfl) (by rfl) (by rfl) (by simp) hng2 (by rw [List.length_map];exact hj1) (Gj hj1 _ _) ?_
    repeat (first|refine ag ?_|refine af ?_|refine dh ?_|refine ae ?_|refine fE ?_|refine gz ?_|refine dG ?_|refine bW ?_|refine bP dI ?_|refine gW ?_)
    exact dm [0,3,5,12,13,14,67,73] (seen++[bs.getD j 0],T++[l.getD j default]) hst (by simp only [hl1];omega) (by simp only [hl1];rfl)
  ·have hVn:V (k:Int)=[]:=Classical.byContradiction fun h=>hs ((hln.out _).1 h)
   rw [if_neg (fun h=>hbeg.1 h hVn)] at hstep
   have hml:=xK (ks:=ks) (V:=V) (p:=pn) 1 hs
   repeat (first|refine ag ?_|refine af ?_|refine az ?_|refine au ?_|refine ah ?_|refine ae ?_|refine aH ?_|refine aF ?_|refine dR rfl (by rfl) dI ?_|refine pF (by rfl) (by rfl) (by exact eY rfl) aO ⟨rfl,rfl⟩ (by (try simp (disch:=omega) only [go_sem,reduceIte,Nat.reduceEqDiff,Nat.reduceAdd,Nat.reduceMul,hml]);try rfl) (by rfl) ?_)
   refine KN rfl (by rfl) ?_
   repeat (first|refine af ?_|refine aH ?_)
   refine cu [0,3,5,12,14,67,73] (fun s:Unit=>True)
    (fun s=>⟨[(0,.ptr [.sl w.length (HL.ints w),.sl LF.length (dV LF),.rmap ⟨.ints 2,none⟩ (G.map pk) (jU G.length)] 0),(3,.pref 0 [] 0),(5,.mref 1 []),(12,.ref 2 [] 2 0 rows.length),(14,.ref 3 [] 2 0 0),(67,.int .i64 k),(73,.mref 4 [])],[(0,.optr [W,.sl S.length (qX S)]),(1,.omap ⟨.int .i64,none⟩ (mr ks) (lG ks V pn)),(2,.osl 2 rows.length (recs ja rows)),(3,.osl 2 0 []),(4,.oitr 0 0 [] 0)],5⟩)
    (fun s=>0) () trivial rfl ?_
   rintro ⟨⟩ -
   refine ah ?_
   refine ae ?_
   refine Ls (by rfl) (by rfl) ?_
   repeat (first|refine ag ?_|refine af ?_|refine bu ?_|refine dh ?_|refine eU (by rfl) ?_|refine bK (by rfl) ?_|refine ak ?_|refine ah ?_|refine ae ?_|refine fE ?_|refine aF ?_|refine bU ?_)
   exact dm [0,3,5,12,67] (k+1,rows,pn) ⟨hkl,by rw [hrows,hstep],by simp only;omega,hrow⟩ iU rfl
 ·obtain rfl:k=64:=by omega
  repeat (first|refine ag ?_|refine af ?_|refine az ?_|refine bK (by rfl) ?_|refine ak ?_|refine ah ?_|refine ae ?_)
  refine ax ?_
  exact ⟨rows,rfl,by rw [hrows,KW],hrow⟩
end Go.Proofs.Ytlbdmpjnmfmnfaa
