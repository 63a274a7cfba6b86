import Derived.Test.YtlbdmpjnmfmnfaaFsC
import Derived.Test.YtlbdmpjnmfmnfaaFsW
import Derived.Test.YtlbdmpjnmfmnfaaFw4
set_option linter.unusedSimpArgs false
set_option linter.unusedVariables false
namespace Go.Proofs.Ytlbdmpjnmfmnfaa
open Go.RowKit Go.HL Go.FS
theorem Wi {fin:List Bool} {al:List A} (h:okF fin al=true):∀a∈al,0<=a.f/\a.f<fin.length:=fun a ha=>⟨(fD h ha).1,(fD h ha).2.1⟩
theorem Il (ll:List (List A)) {n:Nat} (h:ll.length=n):stripL (win (fM ll) 0 (n*1))=eU ll:=by
 rw [<- lG,win,if_pos ⟨rfl,by rw [rJ];omega⟩]
theorem J5 (l:List Nd) (v:Nd):(nY (l++[v])).take (l.length*2)=nY l:=by
 rw [show nY (l++[v])=nY l++pC v by simp [recs],List.take_left' (ul l)]
theorem MO {w:List Int} {y:Nd} {R:List A} {k:Nat} (td:List Nd) (h:k<R.length):td++(R.take (k+1)).filterMap (jP w y)=(td++(R.take k).filterMap (jP w y))++(jP w y (R.getD k default)).toList:=by
 rw [dC h,List.filterMap_append,List.append_assoc]
 generalize R.getD k default=a
 cases hp:jP w y a<;>simp [hp]
theorem Hw {α:Type} (l:List α) (v d:α) {i:Nat} (h:i=l.length):(l++[v]).getD i d=v:=by subst h;simp
def Ub (w:List Int) (ll:List (List A)) (G:List Nd):HV:=.optr [.sl w.length (HL.ints w),.osl 1 ll.length (fM ll),.omap ⟨.ints 2,none⟩ (G.map pk) (kT G.length)]
set_option maxHeartbeats 8000000 in
theorem KY (fin:List Bool) (al:List A) (w:List Int) (hv:okF fin al=true) (hw:w.length<=1024):HT Try.prog 54 [.agg (iF fin al),.sl w.length (HL.ints w)] (fun r=>∃G,r=Ub w (bD (·.f) fin.length al) G/\G.Nodup/\∀x,x∈G <-> FS.Good fin al w x):=by
 obtain ⟨h1,h2,h3⟩:=gm hv
 refine HT.of rfl ZW (Nat.le_of_ble_eq_true rfl) ?_
 unfold c54
 simp only [aY,Nat.reduceAdd,iF,jJ]
 repeat (first|refine ah ?_|refine af ?_|refine ak ?_|refine ae ?_|refine gq ?_|refine dX ?_)
 refine bT bH dw (Gv fin al hv) ?_
 rintro _ rfl
 refine ⟨bJ,_,_,_,_,_,gY,(by decide),bF,?_⟩
 have hfl:=iE (·.f) fin.length al
 generalize hLF:bD (·.f) fin.length al=LF at hfl
 repeat (first|refine uC dZ ?_|refine bY ?_)
 refine OO dZ aJ aO jh lS (by rfl) (by simp only [kR,List.cons_append,List.nil_append,List.append_nil,List.map_cons,List.map_nil,if_true,if_false,reduceIte];try rfl) ?_
 repeat (first|refine ah ?_|refine aW ?_|refine af ?_|refine dm (by rfl) ?_|refine ak ?_|refine ae ?_|refine aK ?_|refine aH ?_|refine mP dZ (by rfl) (by omega) aO aO ?_)
 rw [<- xe (·.t)]
 refine dn [1,2,5,6,26,27,28] (fun k:Nat=>k<=al.length)
  (fun k=>⟨[(1,.sl w.length (HL.ints w)),(2,.pref 0 [] 0),(5,.pref 1 [] 0),(6,.ref 2 [] 1 0 fin.length),(26,.sl al.length (recs aC al)),(27,.int .i64 al.length),(28,.int .i64 k)],[(0,.optr [.sl fin.length (HL.bools fin),.sl al.length (recs aC al)]),(1,.optr [.sl w.length (HL.ints w),.osl 1 fin.length (fM LF),.omap ⟨.ints 2,none⟩ [] []]),(2,.osl 1 fin.length (fM (bD (·.t) fin.length (al.take k))))],3⟩)
  (fun k=>al.length - k) 0 (by omega) rfl ?_
 intro k hk
 by_cases hkl:k<al.length
 ·have ha:=fD hv (oO hkl)
  have hlen:=iE (·.t) fin.length (al.take k)
  have hrow:((bD (·.t) fin.length (al.take k)).getD (al.getD k default).t.toNat []).length<=8192:=Nat.le_trans wY (by simp;omega)
  have hst:=vW (p:=(·.t)) (n:=fin.length) (l:=al.take k) (a:=al.getD k default) (j:=(al.getD k default).t.toNat) (by omega)
  rw [<- dC hkl] at hst
  have hro:=zS (bD (·.t) fin.length (al.take k)) (al.getD k default).t.toNat ((bD (·.t) fin.length (al.take k)).getD (al.getD k default).t.toNat []++[al.getD k default]) .dead (n:=((bD (·.t) fin.length (al.take k)).getD (al.getD k default).t.toNat []).length+1) (by simp)
  rw [hst] at hro
  repeat (first|refine bu ?_|refine af ?_|refine aF ?_|refine ax ?_|refine ak ?_|refine ae ?_|refine aK ?_|refine aI ?_|refine bG ?_|refine dG ?_|refine bI dZ ?_)
  refine bU 51 [1,2,5,6,8,26,27,28] ⟨[(1,.sl w.length (HL.ints w)),(2,.pref 0 [] 0),(5,.pref 1 [] 0),(6,.ref 2 [] 1 0 fin.length),(8,.ptr (aC (al.getD k default)) 0),(26,.sl al.length (recs aC al)),(27,.int .i64 al.length),(28,.int .i64 k)],[(0,.optr [.sl fin.length (HL.bools fin),.sl al.length (recs aC al)]),(1,.optr [.sl w.length (HL.ints w),.osl 1 fin.length (fM LF),.omap ⟨.ints 2,none⟩ [] []]),(2,.osl 1 fin.length (fM (bD (·.t) fin.length (al.take k))))],3⟩ rfl ?_
  unfold QD
  refine lg [8] [6] bC bC (fun _ _ _=>False) (by simp [aA,HV.deep,bg,aC]) (by simp [aA,HV.deep,bg]) ?_
  simp only [aC]
  repeat (first|refine ah ?_|refine gQ ?_|refine jf (by rfl) aQ (by (try simp (disch:=omega) only [go_sem,hro]);try rfl) ?_|refine iG (by rfl) bQ (by (try simp (disch:=omega) only [go_sem,reduceIte,Nat.reduceEqDiff,Nat.reduceAdd,Nat.reduceMul,hro]);try rfl) aQ (by (try simp (disch:=omega) only [go_sem,hro]);try rfl) aJ ?_|refine af ?_|refine kF (by rfl) (by rfl) (by (try simp (disch:=omega) only [go_sem,Int.reduceAdd,Int.reduceSub,Int.reduceMul,hro]);try rfl) ?_|refine ae ?_|refine gV ?_|refine dh ?_|refine vJ (by rfl) aQ (by (try simp (disch:=omega) only [go_sem,reduceIte,Nat.reduceEqDiff,Nat.reduceAdd,Nat.reduceMul,hro]);try rfl) ?_|refine lK (by rfl) aJ aO jh lS (by rfl) nC (by rfl) mV (by (try simp (disch:=omega) only [go_sem,reduceIte,Nat.reduceEqDiff,Nat.reduceAdd,Nat.reduceMul,hro]);try rfl) aQ (by (try simp (disch:=omega) only [go_sem,hro]);try rfl) aO jk ?_|refine cO ?_|refine lI dZ (by rfl) aJ sK (by (try simp (disch:=omega) only [go_sem,reduceIte,Nat.reduceEqDiff,Nat.reduceAdd,Nat.reduceMul,hro]);try omega) bQ (by (try simp (disch:=omega) only [go_sem,reduceIte,Nat.reduceEqDiff,Nat.reduceAdd,Nat.reduceMul,hro]);try rfl) dZ (by omega) iC aQ (by (try simp (disch:=omega) only [go_sem,reduceIte,Nat.reduceEqDiff,Nat.reduceAdd,Nat.reduceMul,hro]);try rfl) aO ?_)
  exact dS [1,2,5,6,26,27,28] (k+1) hkl (by omega) rfl
 ·obtain rfl:k=al.length:=by omega
  rw [List.take_length]
  repeat (first|refine aW ?_|refine af ?_|refine aF ?_|refine bZ (by rfl) ?_|refine au ?_|refine ak ?_|refine ae ?_|refine bK ?_|refine aH ?_)
  refine bT bH dw (zH fin (by omega)) ?_
  rintro _ rfl
  refine ⟨bJ,_,_,_,_,_,gY,(by decide),bF,?_⟩
  have hfin:=uI fin fin.length
  have hmf:=fun p=>mem_finL (fin:=fin) (p:=p)
  generalize hFL:ng fin fin.length=fl at hfin hmf
  have htl:=iE (·.t) fin.length al
  have hrt:∀i:Nat,i<fin.length->(bD (·.t) fin.length al).getD i []=al.filter fun a=>a.t==(i:Int):=fun i hi=>kK _ _ hi
  generalize hLT:bD (·.t) fin.length al=LT at htl hrt
  repeat (first|refine ah ?_|refine af ?_|refine fG (by rfl) ?_|refine aK ?_)
  refine bU 2 [1,5,6,9,47,48,49] ⟨[(1,.sl w.length (HL.ints w)),(5,.pref 0 [] 0),(6,.sl fin.length (eU LT)),(9,.ref 1 [] 2 0 0),(47,.ref 2 [] 1 0 fl.length),(48,.int .i64 fl.length),(49,.int .i64 0)],[(0,.optr [.sl w.length (HL.ints w),.osl 1 fin.length (fM LF),.omap ⟨.ints 2,none⟩ [] []]),(1,.osl 2 0 []),(2,.osl 1 fl.length (HL.ints fl))],3⟩ (by rw [<- Il LT htl];rfl) ?_
  refine dn [1,5,6,9,47,48,49] (fun k:Nat=>k<=fl.length)
   (fun k=>⟨[(1,.sl w.length (HL.ints w)),(5,.pref 0 [] 0),(6,.sl fin.length (eU LT)),(9,.ref 1 [] 2 0 k),(47,.ref 2 [] 1 0 fl.length),(48,.int .i64 fl.length),(49,.int .i64 k)],[(0,.optr [.sl w.length (HL.ints w),.osl 1 fin.length (fM LF),.omap ⟨.ints 2,none⟩ [] []]),(1,.osl 2 k (nY ((fl.take k).map fun p=>(p,(w.length:Int))))),(2,.osl 1 fl.length (HL.ints fl))],3⟩)
   (fun k=>fl.length - k) 0 (by omega) rfl ?_
  intro k hk
  by_cases hkl:k<fl.length
  ·have htk:=dC hkl
   have hpl:((fl.take k).map fun p=>(p,(w.length:Int))).length=k:=by simp;omega
   have hps2:((fl.take k).map fun p=>(p,(w.length:Int)))++[(fl.getD k 0,(w.length:Int))]=(fl.take (k+1)).map fun p=>(p,(w.length:Int)):=by rw [htk,List.map_append];rfl
   generalize (fl.take k).map (fun p=>(p,(w.length:Int)))=tk at hpl hps2
   repeat (first|refine ah ?_|refine gQ ?_|refine aW ?_|refine af ?_|refine aF ?_|refine bM ?_|refine dm (by rfl) ?_|refine ax ?_|refine ak ?_|refine ae ?_|refine aK ?_|refine gV ?_|refine aI ?_|refine cO ?_|refine jv ?_|refine bY ?_)
   exact dS [1,5,6,9,47,48,49] (k+1) hkl (by omega) (by rw [<- hps2];rfl)
  ·obtain rfl:k=fl.length:=by omega
   rw [List.take_length]
   have hs:=SI.start (al:=al) (w:=w) hmf
   have hpl:(fl.map fun p=>(p,(w.length:Int))).length=fl.length:=by simp
   generalize fl.map (fun p=>(p,(w.length:Int)))=td0 at hs hpl
   rw [<- hpl]
   repeat (first|refine af ?_|refine aF ?_|refine bZ (by rfl) ?_|refine au ?_|refine ak ?_|refine ae ?_|refine aK ?_)
   refine dn [1,5,6,9] (fun s:List Nd×List Nd=>SI fin al w s.1 s.2/\s.2.length<=fl.length+s.1.length*al.length)
    (fun s=>⟨[(1,.sl w.length (HL.ints w)),(5,.pref 0 [] 0),(6,.sl fin.length (eU LT)),(9,.ref 1 [] 2 0 s.2.length)],[(0,.optr [.sl w.length (HL.ints w),.osl 1 fin.length (fM LF),.omap ⟨.ints 2,none⟩ (s.1.map pk) (kT s.1.length)]),(1,.osl 2 s.2.length (nY s.2))],2⟩)
    (fun s=>(fin.length*(w.length+1) - s.1.length)*(al.length+1)+s.2.length) ([],td0) ⟨hs,by simp;omega⟩ rfl ?_
   rintro ⟨G,td⟩ ⟨hsi,htd⟩
   simp only at hsi htd ⊢
   have hcard:=sV hsi.nodup fun x hx=>(hsi.good x (by simp [hx])).2
   have hb1:fin.length*(w.length+1)<=2048*1025:=Nat.mul_le_mul h2 (by omega)
   have hb2:G.length*al.length<=2048*1025*8192:=Nat.mul_le_mul (by omega) h3
   rcases List.eq_nil_or_concat td with rfl|⟨td',v,rfl⟩
   ·repeat (first|refine ah ?_|refine af ?_|refine fG (by rfl) ?_|refine bZ (by rfl) ?_|refine au ?_|refine ak ?_|refine ae ?_|refine bP ?_)
    refine ay ?_
    exact ⟨G,by rw [Ub,hfl];rfl,hsi.nodup,hsi.done⟩
   ·rw [List.concat_eq_append] at hsi htd ⊢
    have hsn:(td'++[v]).length=td'.length+1:=by simp
    have hv1:=(hsi.good v (by simp)).2
    have hgv:(td'++[v]).getD td'.length default=v:=Hw _ _ _ rfl
    have hz:(((td'.length+1:Nat):Int) - 1).toNat=td'.length:=by omega
    rw [hsn] at htd ⊢
    repeat (first|refine ah ?_|refine gQ ?_|refine af ?_|refine fG (by rfl) ?_|refine ax ?_|refine ak ?_|refine ae ?_|refine aK ?_|refine aI ?_|refine zo (by rfl) (by rfl) (by (try simp (disch:=omega) only [go_sem,Int.reduceAdd,Int.reduceSub,Int.reduceMul,hz,hgv]);try rfl) ?_|refine bP ?_|refine iZ (by rfl) bQ aO aQ (by decide) (by (try simp (disch:=omega) only [go_sem,reduceIte,Nat.reduceEqDiff,Nat.reduceAdd,Nat.reduceMul,hz,hgv]);try rfl) iM ?_|refine yP (by rfl) aJ aO iM (by rfl) (by decide) bQ aO aQ (by (try simp (disch:=omega) only [go_sem,hz,hgv]);try rfl) aO ?_|refine L6 (by rfl) (by rfl) (by rfl) (by omega) aO dZ ?_|refine bI dZ ?_)
    refine yx 9 [1,5,6,9,12] ⟨[(1,.sl w.length (HL.ints w)),(5,.pref 0 [] 0),(6,.sl fin.length (eU LT)),(9,.ref 1 [] 2 0 td'.length),(12,.pref 2 [] 0)],[(0,.optr [.sl w.length (HL.ints w),.osl 1 fin.length (fM LF),.omap ⟨.ints 2,none⟩ (G.map pk) (kT G.length)]),(1,.osl 2 td'.length (nY td')),(2,.optr [.int .i64 v.1,.int .i64 v.2])],3⟩ rfl rfl (by omega) (Df _) (by decide) (by rw [hz,J5];rfl) ?_
    obtain ⟨v1,v2⟩:=v
    by_cases hG:(v1,v2)∈G
    ·have hd:decide ((v1,v2)∈G)=true:=decide_eq_true hG
     refine gJ bC bC (fun _ _ _=>False) ?_
     repeat (first|refine ah ?_|refine iG (by rfl) bQ (by (try simp (disch:=omega) only [go_sem,reduceIte,Nat.reduceEqDiff,Nat.reduceAdd,Nat.reduceMul,hd]);try rfl) aQ (by (try simp (disch:=omega) only [go_sem,hd]);try rfl) aJ ?_|refine af ?_|refine bZ (by rfl) ?_|refine ax ?_|refine aH ?_|refine iZ (by rfl) bQ aO aQ (by decide) (by (try simp (disch:=omega) only [go_sem,reduceIte,Nat.reduceEqDiff,Nat.reduceAdd,Nat.reduceMul,hd]);try rfl) iM ?_|refine qH (by rfl) (by rfl) (by exact eY rfl) aJ ⟨rfl,rfl⟩ (by (try simp (disch:=omega) only [go_sem,reduceIte,Nat.reduceEqDiff,Nat.reduceAdd,Nat.reduceMul,hd]);try rfl) (by rfl) ?_|refine gX aJ rfl ?_)
     exact dS [1,5,6,9] (G,td') ⟨hsi.skip hG,by simp only;omega⟩ iH rfl
    ·have hd:decide ((v1,v2)∈G)=false:=decide_eq_false hG
     have hins:ins (v1,v2) G=G++[(v1,v2)]:=by unfold ins;rw [if_neg hG]
     have hgl:(G++[(v1,v2)]).length=G.length+1:=by simp
     have hst:=hsi.step (fun a ha=>Wi hv a ha) hG
     have hcard':=sV hst.nodup fun x hx=>(hst.good x (by simp only [List.mem_append] at hx ⊢;exact .inl hx)).2
     rw [hgl] at hcard'
     obtain ⟨g1,g2,g3,g4⟩:=hv1
     simp only at g1 g2 g3 g4
     have hrow:=hrt v1.toNat (by omega)
     rw [show ((v1.toNat:Nat):Int)=v1 by omega] at hrow
     have hrl:(LT.getD v1.toNat []).length<=al.length:=by rw [hrow];exact List.length_filter_le _ _
     have hrm:∀k,k<(LT.getD v1.toNat []).length->(LT.getD v1.toNat []).getD k default∈al:=fun k hk=>by
      have:=oO hk
      rw [hrow] at this ⊢
      exact (List.mem_filter.1 this).1
     rw [<- hrow] at hst
     generalize hR:LT.getD v1.toNat []=R at hrl hrm hst
     refine gJ bC bC (fun _ _ _=>False) ?_
     repeat (first|refine ah ?_|refine iG (by rfl) bQ (by (try simp (disch:=omega) only [go_sem,reduceIte,Nat.reduceEqDiff,Nat.reduceAdd,Nat.reduceMul,hd]);try rfl) aQ (by (try simp (disch:=omega) only [go_sem,hd]);try rfl) aJ ?_|refine af ?_|refine au ?_|refine ak ?_|refine aI ?_|refine aH ?_|refine iZ (by rfl) bQ aO aQ (by decide) (by (try simp (disch:=omega) only [go_sem,reduceIte,Nat.reduceEqDiff,Nat.reduceAdd,Nat.reduceMul,hd]);try rfl) iM ?_|refine qH (by rfl) (by rfl) (by exact eY rfl) aJ ⟨rfl,rfl⟩ (by (try simp (disch:=omega) only [go_sem,reduceIte,Nat.reduceEqDiff,Nat.reduceAdd,Nat.reduceMul,hd]);try rfl) (by rfl) ?_|refine gX aJ rfl ?_)
     refine gJ bC bC (fun _ _ _=>False) ?_
     repeat (first|refine ah ?_|refine bu ?_|refine jf (by rfl) aQ (by (try simp (disch:=omega) only [go_sem,hins,hR]);try rfl) ?_|refine iG (by rfl) bQ (by (try simp (disch:=omega) only [go_sem,reduceIte,Nat.reduceEqDiff,Nat.reduceAdd,Nat.reduceMul,hins,hR]);try rfl) aQ (by (try simp (disch:=omega) only [go_sem,hins,hR]);try rfl) aJ ?_|refine af ?_|refine dm (by rfl) ?_|refine ak ?_|refine ae ?_|refine aK ?_|refine aH ?_|refine iZ (by rfl) bQ aO aQ (by decide) (by (try simp (disch:=omega) only [go_sem,reduceIte,Nat.reduceEqDiff,Nat.reduceAdd,Nat.reduceMul,hins,hR]);try rfl) iM ?_|refine qW (by rfl) aJ aJ lQ (by trivial) lQ (by exact eY rfl) ⟨rfl,rfl⟩ (by (try simp (disch:=omega) only [go_sem,reduceIte,Nat.reduceEqDiff,Nat.reduceAdd,Nat.reduceMul,hins,hR]);try rfl) aO jk ?_|refine gX aJ rfl ?_)
     refine dn [1,5,6,9,12,90,91,92] (fun k:Nat=>k<=R.length)
      (fun k=>⟨[(1,.sl w.length (HL.ints w)),(5,.pref 0 [] 0),(6,.sl fin.length (eU LT)),(9,.ref 1 [] 2 0 (td'++(R.take k).filterMap (jP w (v1,v2))).length),(12,.pref 2 [] 0),(90,.sl R.length (recs aC R)),(91,.int .i64 R.length),(92,.int .i64 k)],[(0,.optr [.sl w.length (HL.ints w),.osl 1 fin.length (fM LF),.omap ⟨.ints 2,none⟩ ((G++[(v1,v2)]).map pk) (kT (G++[(v1,v2)]).length)]),(1,.osl 2 (td'++(R.take k).filterMap (jP w (v1,v2))).length (nY (td'++(R.take k).filterMap (jP w (v1,v2))))),(2,.optr [.int .i64 v1,.int .i64 v2])],3⟩)
      (fun k=>R.length - k) 0 (by omega) (by simp only [List.take_zero,List.filterMap_nil,List.append_nil];rfl) ?_
     intro k hk
     by_cases hkl:k<R.length
     ·have ha:=fD hv (hrm k hkl)
      have hT:=MO (w:=w) (y:=(v1,v2)) td' hkl
      have hTl:(td'++(R.take k).filterMap (jP w (v1,v2))).length<=td'.length+k:=by
       have:=List.length_filterMap_le (jP w (v1,v2)) (R.take k)
       rw [List.length_take] at this
       rw [List.length_append];omega
      generalize (td'++(R.take k).filterMap (jP w (v1,v2)))=T at hT hTl
      by_cases hi:(R.getD k default).i = -1
      ·have hp:jP w (v1,v2) (R.getD k default)=some ((R.getD k default).f,v2):=by simp only [jP,if_pos hi]
       have hTl2:(T++[((R.getD k default).f,v2)]).length=T.length+1:=by simp
       rw [hp] at hT
       repeat (first|refine ah ?_|refine bu ?_|refine aW ?_|refine af ?_|refine aF ?_|refine dV ?_|refine bM ?_|refine ax ?_|refine ak ?_|refine ae ?_|refine aK ?_|refine gV ?_|refine aI ?_|refine aH ?_|refine bG ?_|refine dG ?_|refine cO ?_|refine bI dZ ?_|refine jv ?_|refine bY ?_)
       exact dS [1,5,6,9,12,90,91,92] (k+1) hkl (by omega) (by simp only [hT,Option.toList_some,hTl2];rfl)
      ·by_cases h0:0<v2
       ·by_cases he:w.getD (v2 - 1).toNat 0=(R.getD k default).i
        ·have hp:jP w (v1,v2) (R.getD k default)=some ((R.getD k default).f,v2 - 1):=by simp only [jP,if_neg hi];exact if_pos ⟨h0,he⟩
         have hTl2:(T++[((R.getD k default).f,v2 - 1)]).length=T.length+1:=by simp
         rw [hp] at hT
         repeat (first|refine bu ?_|refine aW ?_|refine af ?_|refine aF ?_|refine dV ?_|refine ax ?_|refine au ?_|refine ak ?_|refine ae ?_|refine aK ?_|refine aI ?_|refine aH ?_|refine bG ?_|refine dG ?_|refine bI dZ ?_)
         refine gJ bC bC (fun _ _ _=>False) ?_
         repeat (first|refine ah ?_|refine aT ?_|refine bu ?_|refine dP ?_|refine aW ?_|refine af ?_|refine dV ?_|refine aU ?_|refine bM ?_|refine ax ?_|refine ae ?_|refine gV ?_|refine zo (by rfl) (by rfl) TL ?_|refine bP ?_|refine aH ?_|refine cO ?_|refine jv ?_|refine bY ?_)
         exact dS [1,5,6,9,12,90,91,92] (k+1) hkl (by omega) (by simp only [hT,Option.toList_some,hTl2];rfl)
        ·have hp:jP w (v1,v2) (R.getD k default)=none:=by simp only [jP,if_neg hi];exact if_neg fun h=>he h.2
         rw [hp] at hT
         repeat (first|refine bu ?_|refine aW ?_|refine af ?_|refine aF ?_|refine dV ?_|refine ax ?_|refine au ?_|refine ak ?_|refine ae ?_|refine aK ?_|refine aI ?_|refine aH ?_|refine bG ?_|refine dG ?_|refine bI dZ ?_)
         refine gJ bC bC (fun _ _ _=>False) ?_
         repeat (first|refine ah ?_|refine aT ?_|refine bu ?_|refine dP ?_|refine aW ?_|refine af ?_|refine dV ?_|refine aU ?_|refine bM ?_|refine au ?_|refine ae ?_|refine gV ?_|refine aI ?_|refine zo (by rfl) (by rfl) TL ?_|refine bP ?_|refine aH ?_)
         exact dS [1,5,6,9,12,90,91,92] (k+1) hkl (by omega) (by simp only [hT,Option.toList_none,List.append_nil];rfl)
       ·have hp:jP w (v1,v2) (R.getD k default)=none:=by simp only [jP,if_neg hi];exact if_neg fun h=>h0 h.1
        rw [hp] at hT
        repeat (first|refine bu ?_|refine aW ?_|refine af ?_|refine aF ?_|refine dV ?_|refine ax ?_|refine au ?_|refine ak ?_|refine ae ?_|refine aK ?_|refine aI ?_|refine aH ?_|refine bG ?_|refine dG ?_|refine bI dZ ?_)
        refine gJ bC bC (fun _ _ _=>False) ?_
        repeat (first|refine ah ?_|refine dI ?_|refine aW ?_|refine af ?_|refine aS ?_|refine bM ?_|refine au ?_|refine ae ?_|refine gV ?_|refine aI ?_|refine bP ?_|refine aH ?_)
        exact dS [1,5,6,9,12,90,91,92] (k+1) hkl (by omega) (by simp only [hT,Option.toList_none,List.append_nil];rfl)
     ·obtain rfl:k=R.length:=by omega
      rw [List.take_length]
      have hTl:(td'++R.filterMap (jP w (v1,v2))).length<=td'.length+R.length:=by
       have:=List.length_filterMap_le (jP w (v1,v2)) R
       rw [List.length_append];omega
      generalize (td'++R.filterMap (jP w (v1,v2)))=T at hst hTl
      repeat (first|refine af ?_|refine aF ?_|refine bZ (by rfl) ?_|refine au ?_|refine ak ?_|refine ae ?_|refine gV ?_)
      exact dS [1,5,6,9] (G++[(v1,v2)],T) ⟨hst,by simp only [hgl,Nat.add_mul,Nat.one_mul];omega⟩ (by
       simp only [hgl]
       have:fin.length*(w.length+1) - G.length=(fin.length*(w.length+1) - (G.length+1))+1:=by omega
       rw [this,Nat.add_mul _ 1];omega) rfl
end Go.Proofs.Ytlbdmpjnmfmnfaa
