import Derived.Test.YtlbdmpjnmfmnfaaFsE
import Derived.Test.YtlbdmpjnmfmnfaaFsV
set_option linter.unusedSimpArgs false
set_option linter.unusedVariables false
namespace Go.Proofs.Ytlbdmpjnmfmnfaa
open Go.RowKit Go.HL Go.FS
theorem KR:HT Try.prog 101 [.nils] (fun r=>r=.nils):=by
 refine HT.of rfl Uk (Nat.le_of_ble_eq_true rfl) ?_
 unfold WM
 simp only [aY,Nat.reduceAdd]
 repeat (first|refine Eu (by rfl) ?_|refine af ?_|refine ax ?_|refine ak ?_|refine ae ?_|refine UZ (by rfl) ?_)
 refine ay ?_
 rfl
theorem PX (l:List Int) (h:0<l.length) (h2:l.length<=100000000):HT Try.prog 101 [.sl l.length (HL.ints l)] (fun r=>r=.osl 1 l.length (HL.ints l)):=by
 refine HT.of rfl Uk (Nat.le_of_ble_eq_true rfl) ?_
 unfold WM
 simp only [aY,Nat.reduceAdd]
 repeat (first|refine ah ?_|refine af ?_|refine au ?_|refine ak ?_|refine ae ?_|refine aF ?_|refine bU ?_|refine bQ ?_|refine gV ?_|refine Ol (by rfl) (by omega) ?_)
 refine ay ?_
 rfl
abbrev yG:=Option (Nat×List Nat×Nat)
def OE (p:yG) (l:List Nd):HV:=.omap ⟨.ints 2,p⟩ (l.map pk) (lX l.length)
def pq (ks:List Int):List HV:=ks.map ik
def nV (ks:List Int) (V:Int->List Nd) (p:Int->yG):List HV:=ks.map fun s=>OE (p s) (V s)
theorem Ec {ks:List Int} {V:Int->List Nd} {p:Int->yG} {s:Int} (h:s∈ks):(nV ks V p).getD (ks.idxOf s) .dead=OE (p s) (V s):=by
 have hj:ks.idxOf s<ks.length:=List.idxOf_lt_length_of_mem h
 simp [nV,List.getElem?_eq_getElem hj]
theorem yJ {ks:List Int} {V:Int->List Nd} {p:Int->yG} {s:Int} (id:Nat) (h:s∈ks):nH id [] (pq ks) (nV ks V p) .nilm (.int .i64 s)=(.mref id [ks.idxOf s],true):=by
 unfold nH pq
 rw [show HV.int .i64 s=ik s from rfl,kS O1,if_pos h]
 simp only [Ec h]
 rfl
theorem BB {ks:List Int} {V:Int->List Nd} {p:Int->yG} {s:Int} (id:Nat) (h:s ∉ ks):nH id [] (pq ks) (nV ks V p) .nilm (.int .i64 s)=(.nilm,false):=by
 unfold nH pq
 rw [show HV.int .i64 s=ik s from rfl,kS O1,if_neg h]
theorem QO {ks:List Int} {V:Int->List Nd} {s:Int} (h:s ∉ ks) (hV:V s=[]):ug ⟨.int .i64,none⟩ (pq ks) (nV ks V fun _=>none) (.int .i64 s) (.omap ⟨.ints 2,none⟩ [] [])=.omap ⟨.int .i64,none⟩ (pq (ks++[s])) (nV (ks++[s]) V fun _=>none):=by
 rw [show HV.int .i64 s=ik s from rfl]
 unfold pq
 rw [DD O1 _ _ _ _ h]
 simp [nV,OE,hV]
theorem sF {ks:List Int} {V:Int->List Nd} {p:Int->yG} {s:Int} (h:s∈ks) (m:MK):aJ (.omap m (pq ks) (nV ks V p)) [ks.idxOf s]=.omap ⟨.ints 2,p s⟩ ((V s).map pk) (lX (V s).length):=by
 simp only [aJ];rw [Ec h];rfl
theorem FN {ks:List Int} {V:Int->List Nd} {p:Int->yG} {s:Int} (h:s∈ks) (hn:ks.Nodup) (m:MK) (q:yG) (l:List Nd):dP (.omap ⟨.ints 2,q⟩ (l.map pk) (lX l.length)) (.omap m (pq ks) (nV ks V p)) [ks.idxOf s]=.omap m (pq ks) (nV ks (fun t=>if t=s then l else V t) (fun t=>if t=s then q else p t)):=by
 simp only [dP]
 congr 1
 apply List.ext_getElem?
 intro i
 rw [List.getElem?_set]
 have hj:ks.idxOf s<ks.length:=List.idxOf_lt_length_of_mem h
 by_cases hi:ks.idxOf s=i
 ·subst hi
  simp [hj,nV,OE]
 ·simp only [if_neg hi]
  simp only [nV,List.getElem?_map]
  cases hki:ks[i]? with
  | none=>rfl
  | some t =>
   have:t≠s:=by
    rintro rfl
    obtain ⟨hlt,he⟩:=List.getElem?_eq_some_iff.1 hki
    exact hi (by rw [<- he];exact hn.idxOf_getElem i hlt)
   simp [this,OE]
theorem Bh {ks:List Int} {V:Int->List Nd} {s:Int} {y:Nd} (h:s∈ks) (hn:ks.Nodup) (m:MK):dP (.omap ⟨.ints 2,none⟩ ((ins y (V s)).map pk) (lX (ins y (V s)).length)) (.omap m (pq ks) (nV ks V fun _=>none)) [ks.idxOf s]=.omap m (pq ks) (nV ks (PT V s y) fun _=>none):=by
 rw [FN h hn]
 congr 2
 funext t
 exact ite_self _
def kE (q:List Int×List Nd):List HV:=[.osl 1 q.1.length (HL.ints q.1),.osl 2 q.2.length (uV q.2)]
theorem oQ (l:List (List Int×List Nd)):(recs kE l).length=l.length*2:=by
 simp only [recs]
 induction l with
 | nil=>rfl
 | cons q l ih=>simp only [List.flatMap_cons,List.length_append,ih,kE,List.length_cons,List.length_nil];omega
theorem qJ (l:List (List Int×List Nd)):win (recs kE l) 0 (l.length*2)=recs kE l:=jc _ (oQ l).symm
attribute [go_sem] oQ qJ
def wR (u:List Int):HV:=if u=[] then .nils else .sl u.length (HL.ints u)
theorem RF {ks:List Int} {V:Int->List Nd} {p:Int->yG} {s:Int} (h:s∈ks) (hn:ks.Nodup) (m:MK) (q:yG):dP (.omap ⟨.ints 2,q⟩ ((V s).map pk) (lX (V s).length)) (.omap m (pq ks) (nV ks V p)) [ks.idxOf s]=.omap m (pq ks) (nV ks V (fun t=>if t=s then q else p t)):=by
 rw [FN h hn]
 congr 2
 funext t
 by_cases e:t=s
 ·simp [e]
 ·simp [e]
theorem Kt {l:List Nd} {j:Nat} (h:j<l.length) (id:Nat) (p:List Nat):HV.tup [(l.map pk).getD j .dead,HL.look id p j ((lX l.length).getD j .dead)]=.tup [.agg [.int .i64 (l.getD j default).1,.int .i64 (l.getD j default).2],.bool true]:=by
 simp [h,lX,HL.look]
structure ItI (l:List Nd) (bs seen:List Nat) (T:List Nd):Prop where
 nd:T.Nodup
 sub:∀x∈T,x∈l
 seen:∀j,j<l.length->(bs.getD j 0∈seen <-> l.getD j default∈T)
theorem ItI.start {l:List Nd} {bs:List Nat}:ItI l bs [] []:=⟨by simp,by simp,by simp⟩
theorem DL {α:Type} [DecidableEq α] {l:List α} (h:l.Nodup) (d:α) {i j:Nat} (hi:i<l.length) (hj:j<l.length):l.getD i d=l.getD j d <-> i=j:=by
 constructor
 ·intro e
  simp only [List.getD_eq_getElem?_getD,List.getElem?_eq_getElem hi,List.getElem?_eq_getElem hj,Option.getD_some] at e
  rw [<- h.idxOf_getElem i hi,<- h.idxOf_getElem j hj,e]
 ·rintro rfl;rfl
theorem ItI.step {l:List Nd} {bs seen:List Nat} {T:List Nd} (h:ItI l bs seen T) (hl:l.Nodup) (hb:bs.Nodup) (hbl:bs.length=l.length) {j:Nat} (hj:j<l.length) (hs:bs.getD j 0 ∉ seen):ItI l bs (seen++[bs.getD j 0]) (T++[l.getD j default]):=by
 have hjm:l.getD j default∈l:=by rw [List.getD_eq_getElem?_getD,List.getElem?_eq_getElem hj];exact List.getElem_mem _
 refine ⟨?_,fun x hx=>?_,fun i hi=>?_⟩
 ·rw [List.nodup_append]
  exact ⟨h.nd,by simp,fun a ha b hb e=>by simp only [List.mem_singleton] at hb;subst hb;subst e;exact hs ((h.seen j hj).2 ha)⟩
 ·rcases List.mem_append.1 hx with hx|hx
  ·exact h.sub x hx
  ·simp only [List.mem_singleton] at hx;rw [hx];exact hjm
 ·simp only [List.mem_append,List.mem_singleton,h.seen i hi,DL hb 0 (by omega:i<bs.length) (by omega:j<bs.length),DL hl default hi hj]
theorem ItI.len {l:List Nd} {bs seen:List Nat} {T:List Nd} (h:ItI l bs seen T):T.length<=l.length:=fQ h.nd h.sub
theorem ItI.done {l:List Nd} {bs seen:List Nat} {T:List Nd} (h:ItI l bs seen T) (hbl:bs.length=l.length) (hd:∀b∈bs,b∈seen) (x:Nd):x∈T <-> x∈l:=by
 refine ⟨h.sub x,fun hx=>?_⟩
 obtain ⟨j,hj,he⟩:=List.getElem_of_mem hx
 have h2:=(h.seen j hj).1 (hd _ (by rw [List.getD_eq_getElem?_getD,List.getElem?_eq_getElem (by omega)];exact List.getElem_mem _))
 rw [List.getD_eq_getElem?_getD,List.getElem?_eq_getElem hj] at h2
 simpa [he] using h2
set_option maxHeartbeats 16000000 in
theorem FM (fin:List Bool) (al:List A) (w:List Int) (G S:List Nd) (u:List Int) (W:HV) (LF:List (List A)) (hLF:bT (·.f) fin.length al=LF) (hW:(W=.nils/\u=[])\/(W=.sl u.length (HL.ints u)/\0<u.length)) (hv:okF fin al=true) (hw:w.length<=1024) (hG:∀x,x∈G <-> FS.Good fin al w x) (hGl:G.length<=4194304) (hS:∀x,x∈S <-> FS.At fin al w u x) (hu:u.length<=8388608) (ks:List Int) (V:Int->List Nd) (hln:LN fin al w S S.length ks V) :
  hx Try.prog [.c (.loop Np),.b 4,.c O7] (finish [4] fun r=>∃rows,r=.osl 2 rows.length (recs kE rows)/\rows.map (·.1)=ext fin al w u/\∀q∈rows,Row fin al w G.length q)
   ⟨[(0,.ptr [.sl w.length (HL.ints w),.sl LF.length (fO LF),.rmap ⟨.ints 2,none⟩ (G.map pk) (lX G.length)] 0),(3,.pref 0 [] 0),(5,.mref 1 []),(12,.ref 2 [] 2 0 0),(67,.int .i64 0)],[(0,.optr [W,.sl S.length (uV S)]),(1,.omap ⟨.int .i64,none⟩ (pq ks) (nV ks V fun _=>none)),(2,.osl 2 0 [])],3⟩:=by
 have hk:uN al:=fun a ha=>by have:=dh hv ha;omega
 have hwide:=fun T=>CQ fin al w G T hv hw hG hGl
 rw [hLF] at hwide
 simp only [runT] at hwide
 refine cu [0,3,5,12,67] (fun s:Nat×List (List Int×List Nd)×(Int->yG)=>s.1<=64/\s.2.1.map (·.1)=GX fin al w u s.1/\s.2.1.length<=s.1/\∀q∈s.2.1,Row fin al w G.length q)
  (fun s=>⟨[(0,.ptr [.sl w.length (HL.ints w),.sl LF.length (fO LF),.rmap ⟨.ints 2,none⟩ (G.map pk) (lX G.length)] 0),(3,.pref 0 [] 0),(5,.mref 1 []),(12,.ref 2 [] 2 0 s.2.1.length),(67,.int .i64 s.1)],[(0,.optr [W,.sl S.length (uV S)]),(1,.omap ⟨.int .i64,none⟩ (pq ks) (nV ks V s.2.2)),(2,.osl 2 s.2.1.length (recs kE s.2.1))],3⟩)
  (fun s=>64 - s.1) (0,[],fun _=>none) ⟨by simp,by simp [GX],by simp,by simp⟩ rfl ?_
 rintro ⟨k,rows,pn⟩ ⟨hk1,hrows,hrl,hrow⟩
 simp only at hk1 hrows hrl hrow ⊢
 by_cases hkl:k<64
 ·have hbeg:=Vm hS hln (Nat.le_refl _) (s:=(k:Int)) (by omega)
  have hstep:=KY (fin:=fin) (al:=al) (w:=w) u k
  by_cases hs:(k:Int)∈ks
  ·have hne:=(hln.out _).2 hs
   rw [if_pos (hbeg.2 hne)] at hstep
   have hml:=yJ (ks:=ks) (V:=V) (p:=pn) 1 hs
   have hng:=sF (V:=V) (p:=pn) hs ⟨.int .i64,none⟩
   repeat (first|refine ah ?_|refine af ?_|refine az ?_|refine ax ?_|refine ak ?_|refine ae ?_|refine aB ?_|refine aF ?_|refine bU ?_|refine qI (by rfl) (by rfl) (by exact eY rfl) aV ⟨rfl,rfl⟩ (by (try simp (disch:=omega) only [go_sem,reduceIte,Nat.reduceEqDiff,Nat.reduceAdd,Nat.reduceMul,hml]);try rfl) (by rfl) ?_)
   refine Xp rfl (by rfl) (by rfl) hng ?_
   intro k0 bs ck hb1 hb2 hb3
   rw [List.length_map] at hb1
   have hpin:=RF (V:=V) (p:=pn) hs hln.nd ⟨.int .i64,none⟩ (some (k0,bs,ck))
   simp only [hpin]
   have hng2:=sF (V:=V) (p:=fun t=>if t=(k:Int) then some (k0,bs,ck) else pn t) hs ⟨.int .i64,none⟩
   simp only [if_true] at hng2
   generalize (fun t=>if t=(k:Int) then some (k0,bs,ck) else pn t)=pn' at hng2 ⊢
   have hVd:=hln.vnd (k:Int)
   have hVc:=hln.card hG (k:Int)
   have hVdn:=fun y=>hln.done (Nat.le_refl _) (s:=(k:Int)) (y:=y)
   have hcl:=fun T hT y=>NG hS hln (Nat.le_refl _) (s:=(k:Int)) (by omega) T hT y
   generalize V (k:Int)=l at hb1 hng2 hVd hVc hVdn hcl hne
   repeat (first|refine af ?_|refine aB ?_)
   refine cu [0,3,5,12,13,14,67,73] (fun s:List Nat×List Nd=>ItI l bs s.1 s.2)
    (fun s=>⟨[(0,.ptr [.sl w.length (HL.ints w),.sl LF.length (fO LF),.rmap ⟨.ints 2,none⟩ (G.map pk) (lX G.length)] 0),(3,.pref 0 [] 0),(5,.mref 1 []),(12,.ref 2 [] 2 0 rows.length),(13,.int .i64 k),(14,.ref 3 [] 2 0 s.2.length),(67,.int .i64 k),(73,.mref 4 [])],[(0,.optr [W,.sl S.length (uV S)]),(1,.omap ⟨.int .i64,none⟩ (pq ks) (nV ks V pn')),(2,.osl 2 rows.length (recs kE rows)),(3,.osl 2 s.2.length (uV s.2)),(4,.oitr (k0+1) ck s.1 ck)],5⟩)
    (fun s=>l.length - s.2.length) ([],[]) .start rfl ?_
   rintro ⟨seen,T⟩ hit
   simp only at hit ⊢
   have hTl:=hit.len
   refine ak ?_
   refine ae ?_
   refine UL (id:=1) (path:=[ks.idxOf (k:Int)]) (by rfl) (by rfl) (by rfl) (by simp) hng2 hb3 (Nat.le_refl _) (fun hd=>?_) (fun j hj1 hj2 hj3=>?_)
   ·have hTd:=hit.done hb1 hd
    have hT0:0<T.length:=by
     obtain ⟨y,hy⟩:=List.exists_mem_of_ne_nil _ hne
     exact List.length_pos_of_mem ((hTd y).2 hy)
    have hTg:∀x∈T,FS.Good fin al w x:=fun x hx=>by
     obtain ⟨_,_,_,_,hg⟩:=(hVdn x).1 ((hTd x).1 hx)
     exact hg
    have hwd:=hwide T hTg (by omega)
    rcases hW with ⟨rfl,rfl⟩|⟨rfl,hu0⟩
    ·repeat (first|refine ah ?_|refine aZ ?_|refine af ?_|refine dJ ?_|refine fF (by rfl) ?_|refine bK (by rfl) ?_|refine ax ?_|refine au ?_|refine ak ?_|refine ae ?_|refine dm ?_|refine aI ?_)
     refine bY bz bW (KR) ?_
     rintro _ rfl
     refine ⟨bG,_,_,_,_,_,fU,(by decide),bu,?_⟩
     repeat (first|refine ah ?_|refine bQ ?_|refine We eH (by rfl) aV uS abp (by omega) iU ?_)
     refine vY [] [] bz CZ QN rfl (by decide) (hwd) ?_
     rintro _ outs ⟨L,rfl,hL,hLl⟩ hol
     obtain rfl:=List.eq_nil_of_length_eq_zero hol
     refine ⟨_,_,_,_,_,fU,(by decide),Gf,?_⟩
     repeat (first|refine ah ?_|refine af ?_|refine jL (by rfl) (by rfl) (by (try simp (disch:=omega) only [go_sem,Int.reduceAdd,Int.reduceSub,Int.reduceMul,oQ,qJ]);try rfl) ?_|refine ae ?_|refine fK ?_|refine uw eH bz aP jG (by simp) (by rfl) (by rfl) (by rfl) ?_|refine iQ eH (by rfl) aV uS lq bV aP eH (by omega) iU aW (by (try simp (disch:=omega) only [go_sem,reduceIte,Nat.reduceEqDiff,Nat.reduceAdd,Nat.reduceMul,oQ,qJ]);try rfl) aP (by rfl) ?_|refine di ?_)
     have hsn:=tC (g:=kE) rows (([]:List Int)++[(k:Int)],L)
     have hrl1:(rows++[(([]:List Int)++[(k:Int)],L)]).length=rows.length+1:=by simp
     have hul:(([]:List Int)++[(k:Int)]).length=([]:List Int).length+1:=by simp
     exact dB [0,3,5,12,67] (k+1,rows++[(([]:List Int)++[(k:Int)],L)],pn') ⟨hkl,by simp only [List.map_append,hrows,hstep];rfl,by simp only [hrl1];omega,fun q hq=>by
      rcases List.mem_append.1 hq with hq|hq
      ·exact hrow q hq
      ·simp only [List.mem_singleton] at hq
       subst hq
       exact ⟨fun x=>(hL x).trans (hcl T hTd x),by simp only;omega⟩⟩ jh (by simp only [hrl1,<- hsn,kE,hul];rfl)
    ·repeat (first|refine ah ?_|refine aZ ?_|refine af ?_|refine dJ ?_|refine fF (by rfl) ?_|refine bK (by rfl) ?_|refine ax ?_|refine au ?_|refine ak ?_|refine ae ?_|refine dm ?_|refine aI ?_)
     refine bY bz bW (PX u hu0 (by omega)) ?_
     rintro _ rfl
     refine ⟨bG,_,_,_,_,_,fU,(by decide),bu,?_⟩
     repeat (first|refine ah ?_|refine bQ ?_|refine gV ?_)
     refine vY [] [] bz CZ QN rfl (by decide) (hwd) ?_
     rintro _ outs ⟨L,rfl,hL,hLl⟩ hol
     obtain rfl:=List.eq_nil_of_length_eq_zero hol
     refine ⟨_,_,_,_,_,fU,(by decide),Gf,?_⟩
     repeat (first|refine ah ?_|refine af ?_|refine jL (by rfl) (by rfl) (by (try simp (disch:=omega) only [go_sem,Int.reduceAdd,Int.reduceSub,Int.reduceMul,oQ,qJ]);try rfl) ?_|refine ae ?_|refine fK ?_|refine uw eH bz aP jG (by simp) (by rfl) (by rfl) (by rfl) ?_|refine iQ eH (by rfl) aV uS lq bV aP eH (by omega) iU aW (by (try simp (disch:=omega) only [go_sem,reduceIte,Nat.reduceEqDiff,Nat.reduceAdd,Nat.reduceMul,oQ,qJ]);try rfl) aP (by rfl) ?_|refine di ?_)
     have hsn:=tC (g:=kE) rows (u++[(k:Int)],L)
     have hrl1:(rows++[(u++[(k:Int)],L)]).length=rows.length+1:=by simp
     have hul:(u++[(k:Int)]).length=u.length+1:=by simp
     exact dB [0,3,5,12,67] (k+1,rows++[(u++[(k:Int)],L)],pn') ⟨hkl,by simp only [List.map_append,hrows,hstep];rfl,by simp only [hrl1];omega,fun q hq=>by
      rcases List.mem_append.1 hq with hq|hq
      ·exact hrow q hq
      ·simp only [List.mem_singleton] at hq
       subst hq
       exact ⟨fun x=>(hL x).trans (hcl T hTd x),by simp only;omega⟩⟩ jh (by simp only [hrl1,<- hsn,kE,hul];rfl)
   ·rw [List.length_map] at hj1
    have hst:=hit.step hVd hb2 hb1 hj1 hj3
    have hst2:=hst.len
    have hl1:(T++[l.getD j default]).length=T.length+1:=by simp
    repeat (first|refine af ?_|refine dJ ?_|refine ax ?_|refine ak ?_|refine ae ?_|refine aB ?_|refine aF ?_)
    refine Xj (id:=1) (path:=[ks.idxOf (k:Int)]) (by rfl) (by rfl) (by rfl) (by simp) hng2 (by rw [List.length_map];exact hj1) (Kt hj1 _ _) ?_
    repeat (first|refine ah ?_|refine af ?_|refine dJ ?_|refine ae ?_|refine fK ?_|refine fJ ?_|refine dK ?_|refine bQ ?_|refine bP eH ?_|refine gV ?_)
    exact dB [0,3,5,12,13,14,67,73] (seen++[bs.getD j 0],T++[l.getD j default]) hst (by simp only [hl1];omega) (by simp only [hl1];rfl)
  ·have hVn:V (k:Int)=[]:=Classical.byContradiction fun h=>hs ((hln.out _).1 h)
   rw [if_neg (fun h=>hbeg.1 h hVn)] at hstep
   have hml:=BB (ks:=ks) (V:=V) (p:=pn) 1 hs
   repeat (first|refine ah ?_|refine af ?_|refine az ?_|refine ax ?_|refine ak ?_|refine ae ?_|refine aB ?_|refine aF ?_|refine bU ?_|refine qI (by rfl) (by rfl) (by exact eY rfl) aV ⟨rfl,rfl⟩ (by (try simp (disch:=omega) only [go_sem,reduceIte,Nat.reduceEqDiff,Nat.reduceAdd,Nat.reduceMul,hml]);try rfl) (by rfl) ?_)
   refine QI rfl (by rfl) ?_
   repeat (first|refine af ?_|refine aB ?_)
   refine cu [0,3,5,12,14,67,73] (fun s:Unit=>True)
    (fun s=>⟨[(0,.ptr [.sl w.length (HL.ints w),.sl LF.length (fO LF),.rmap ⟨.ints 2,none⟩ (G.map pk) (lX G.length)] 0),(3,.pref 0 [] 0),(5,.mref 1 []),(12,.ref 2 [] 2 0 rows.length),(14,.ref 3 [] 2 0 0),(67,.int .i64 k),(73,.mref 4 [])],[(0,.optr [W,.sl S.length (uV S)]),(1,.omap ⟨.int .i64,none⟩ (pq ks) (nV ks V pn)),(2,.osl 2 rows.length (recs kE rows)),(3,.osl 2 0 []),(4,.oitr 0 0 [] 0)],5⟩)
    (fun s=>0) () trivial rfl ?_
   rintro ⟨⟩ -
   refine ak ?_
   refine ae ?_
   refine RU (by rfl) (by rfl) ?_
   repeat (first|refine ah ?_|refine af ?_|refine bH ?_|refine dJ ?_|refine fF (by rfl) ?_|refine bK (by rfl) ?_|refine au ?_|refine ak ?_|refine ae ?_|refine fK ?_|refine aF ?_|refine dm ?_)
   exact dB [0,3,5,12,67] (k+1,rows,pn) ⟨hkl,by rw [hrows,hstep],by simp only;omega,hrow⟩ jh rfl
 ·obtain rfl:k=64:=by omega
  repeat (first|refine ah ?_|refine af ?_|refine az ?_|refine bK (by rfl) ?_|refine au ?_|refine ak ?_|refine ae ?_)
  refine ay ?_
  exact ⟨rows,rfl,by rw [hrows,QK],hrow⟩
end Go.Proofs.Ytlbdmpjnmfmnfaa
