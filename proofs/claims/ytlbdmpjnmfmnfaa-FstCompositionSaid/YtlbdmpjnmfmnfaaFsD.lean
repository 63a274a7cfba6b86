import Derived.Test.YtlbdmpjnmfmnfaaFsC
import Derived.Test.YtlbdmpjnmfmnfaaFsS
import Derived.Test.YtlbdmpjnmfmnfaaFs2
set_option linter.unusedSimpArgs false
set_option linter.unusedVariables false
namespace Go.Proofs.Ytlbdmpjnmfmnfaa
open Go.RowKit Go.HL Go.FS
theorem Xw {fin:List Bool} {al:List A} (h:okF fin al=true):∀a∈al,0<=a.f/\a.f<fin.length:=fun a ha=>⟨(fU h ha).1,(fU h ha).2.1⟩
theorem Hr (ll:List (List A)) {n:Nat} (h:ll.length=n):stripL (win (fA ll) 0 (n*1))=dW ll:=by
 rw [<- kD,win,if_pos ⟨rfl,by rw [qA];omega⟩]
theorem Jr (l:List Nd) (v:Nd):(rG (l++[v])).take (l.length*2)=rG l:=by
 rw [show rG (l++[v])=rG l++pC v by simp [recs],List.take_left' (Ff l)]
theorem KT {w:List Int} {y:Nd} {R:List A} {k:Nat} (td:List Nd) (h:k<R.length):td++(R.take (k+1)).filterMap (jl w y)=(td++(R.take k).filterMap (jl w y))++(jl w y (R.getD k default)).toList:=by
 rw [dh h,List.filterMap_append,List.append_assoc]
 generalize R.getD k default=a
 cases hp:jl w y a<;>simp [hp]
theorem Gn {α:Type} (l:List α) (v d:α) {i:Nat} (h:i=l.length):(l++[v]).getD i d=v:=by subst h;simp
def RP (w:List Int) (ll:List (List A)) (G:List Nd):HV:=.optr [.sl w.length (HL.ints w),.osl 1 ll.length (fA ll),.omap ⟨.ints 2,none⟩ (G.map pk) (jV G.length)]
set_option maxHeartbeats 8000000 in
theorem IV (fin:List Bool) (al:List A) (w:List Int) (hv:okF fin al=true) (hw:w.length<=1024):HT Try.prog 54 [.agg (gX fin al),.sl w.length (HL.ints w)] (fun r=>∃G,r=RP w (bD (·.f) fin.length al) G/\G.Nodup/\∀x,x∈G <-> FS.Good fin al w x):=by
 obtain ⟨h1,h2,h3⟩:=jH hv
 refine HT.of rfl YR (Nat.le_of_ble_eq_true rfl) ?_
 unfold Zf
 simp only [aW,Nat.reduceAdd,gX,ji]
 repeat (first|refine ag ?_|refine af ?_|refine ah ?_|refine ae ?_|refine gK ?_|refine fF ?_)
 refine bZ bJ cZ (FO fin al hv) ?_
 rintro _ rfl
 refine ⟨bP,_,_,_,_,_,gV,(by decide),bH,?_⟩
 have hfl:=gU (·.f) fin.length al
 generalize hLF:bD (·.f) fin.length al=LF at hfl
 repeat (first|refine sZ dZ ?_|refine di ?_)
 refine MJ dZ aJ aV jK mO (by rfl) (by simp only [qG,List.cons_append,List.nil_append,List.append_nil,List.map_cons,List.map_nil,if_true,if_false,reduceIte];try rfl) ?_
 repeat (first|refine ag ?_|refine aY ?_|refine af ?_|refine aP ?_|refine ah ?_|refine ae ?_|refine aG ?_|refine aI ?_|refine Eu dZ (by rfl) (by omega) aV aV ?_)
 rw [<- wP (·.t)]
 refine cu [1,2,5,6,26,27,28] (fun k:Nat=>k<=al.length)
  (fun k=>⟨[(1,.sl w.length (HL.ints w)),(2,.pref 0 [] 0),(5,.pref 1 [] 0),(6,.ref 2 [] 1 0 fin.length),(26,.sl al.length (recs aC al)),(27,.int .i64 al.length),(28,.int .i64 k)],[(0,.optr [.sl fin.length (HL.bools fin),.sl al.length (recs aC al)]),(1,.optr [.sl w.length (HL.ints w),.osl 1 fin.length (fA LF),.omap ⟨.ints 2,none⟩ [] []]),(2,.osl 1 fin.length (fA (bD (·.t) fin.length (al.take k))))],3⟩)
  (fun k=>al.length - k) 0 (by omega) rfl ?_
 intro k hk
 by_cases hkl:k<al.length
 ·have ha:=fU hv (mg hkl)
  have hlen:=gU (·.t) fin.length (al.take k)
  have hrow:((bD (·.t) fin.length (al.take k)).getD (al.getD k default).t.toNat []).length<=8192:=Nat.le_trans vY (by simp;omega)
  have hst:=uH (p:=(·.t)) (n:=fin.length) (l:=al.take k) (a:=al.getD k default) (j:=(al.getD k default).t.toNat) (by omega)
  rw [<- dh hkl] at hst
  have hro:=yF (bD (·.t) fin.length (al.take k)) (al.getD k default).t.toNat ((bD (·.t) fin.length (al.take k)).getD (al.getD k default).t.toNat []++[al.getD k default]) .dead (n:=((bD (·.t) fin.length (al.take k)).getD (al.getD k default).t.toNat []).length+1) (by simp)
  rw [hst] at hro
  repeat (first|refine aT ?_|refine af ?_|refine az ?_|refine ak ?_|refine ah ?_|refine ae ?_|refine aG ?_|refine aA ?_|refine bI ?_|refine dJ ?_|refine bY dZ ?_)
  refine bM 51 [1,2,5,6,8,26,27,28] ⟨[(1,.sl w.length (HL.ints w)),(2,.pref 0 [] 0),(5,.pref 1 [] 0),(6,.ref 2 [] 1 0 fin.length),(8,.ptr (aC (al.getD k default)) 0),(26,.sl al.length (recs aC al)),(27,.int .i64 al.length),(28,.int .i64 k)],[(0,.optr [.sl fin.length (HL.bools fin),.sl al.length (recs aC al)]),(1,.optr [.sl w.length (HL.ints w),.osl 1 fin.length (fA LF),.omap ⟨.ints 2,none⟩ [] []]),(2,.osl 1 fin.length (fA (bD (·.t) fin.length (al.take k))))],3⟩ rfl ?_
  unfold O1
  refine kw [8] [6] bK bK (fun _ _ _=>False) (by simp [aH,HV.deep,bn,aC]) (by simp [aH,HV.deep,bn]) ?_
  simp only [aC]
  repeat (first|refine ag ?_|refine nY (by rfl) (by rfl) (by omega) dZ ?_|refine jc (by rfl) aS (by (try simp (disch:=omega) only [go_sem,hro]);try rfl) ?_|refine iw (by rfl) bT (by (try simp (disch:=omega) only [go_sem,reduceIte,Nat.reduceEqDiff,Nat.reduceAdd,Nat.reduceMul,hro]);try rfl) aS (by (try simp (disch:=omega) only [go_sem,hro]);try rfl) aJ ?_|refine af ?_|refine kP (by rfl) (by rfl) (by (try simp (disch:=omega) only [go_sem,Int.reduceAdd,Int.reduceSub,Int.reduceMul,hro]);try rfl) ?_|refine ae ?_|refine fJ ?_|refine dD ?_|refine uy (by rfl) aS (by (try simp (disch:=omega) only [go_sem,reduceIte,Nat.reduceEqDiff,Nat.reduceAdd,Nat.reduceMul,hro]);try rfl) ?_|refine mD (by rfl) aJ aV jK mO (by rfl) og (by rfl) oh (by (try simp (disch:=omega) only [go_sem,reduceIte,Nat.reduceEqDiff,Nat.reduceAdd,Nat.reduceMul,hro]);try rfl) aS (by (try simp (disch:=omega) only [go_sem,hro]);try rfl) aV jA ?_|refine bQ ?_|refine lY dZ (by rfl) aJ tH (by (try simp (disch:=omega) only [go_sem,reduceIte,Nat.reduceEqDiff,Nat.reduceAdd,Nat.reduceMul,hro]);try omega) bT (by (try simp (disch:=omega) only [go_sem,reduceIte,Nat.reduceEqDiff,Nat.reduceAdd,Nat.reduceMul,hro]);try rfl) dZ (by omega) iq aS (by (try simp (disch:=omega) only [go_sem,reduceIte,Nat.reduceEqDiff,Nat.reduceAdd,Nat.reduceMul,hro]);try rfl) aV ?_)
  exact dC [1,2,5,6,26,27,28] (k+1) hkl (by omega) rfl
 ·obtain rfl:k=al.length:=by omega
  rw [List.take_length]
  repeat (first|refine aY ?_|refine af ?_|refine az ?_|refine bF (by rfl) ?_|refine au ?_|refine ah ?_|refine ae ?_|refine bG ?_|refine aI ?_)
  refine bZ bJ cZ (Hw fin (by omega)) ?_
  rintro _ rfl
  refine ⟨bP,_,_,_,_,_,gV,(by decide),bH,?_⟩
  have hfin:=BV fin fin.length
  have hmf:=fun p=>mem_finL (fin:=fin) (p:=p)
  generalize hFL:qE fin fin.length=fl at hfin hmf
  have htl:=gU (·.t) fin.length al
  have hrt:∀i:Nat,i<fin.length->(bD (·.t) fin.length al).getD i []=al.filter fun a=>a.t==(i:Int):=fun i hi=>jU _ _ hi
  generalize hLT:bD (·.t) fin.length al=LT at htl hrt
  repeat (first|refine ag ?_|refine af ?_|refine fC (by rfl) ?_|refine aG ?_)
  refine bM 2 [1,5,6,9,47,48,49] ⟨[(1,.sl w.length (HL.ints w)),(5,.pref 0 [] 0),(6,.sl fin.length (dW LT)),(9,.ref 1 [] 2 0 0),(47,.ref 2 [] 1 0 fl.length),(48,.int .i64 fl.length),(49,.int .i64 0)],[(0,.optr [.sl w.length (HL.ints w),.osl 1 fin.length (fA LF),.omap ⟨.ints 2,none⟩ [] []]),(1,.osl 2 0 []),(2,.osl 1 fl.length (HL.ints fl))],3⟩ (by rw [<- Hr LT htl];rfl) ?_
  refine cu [1,5,6,9,47,48,49] (fun k:Nat=>k<=fl.length)
   (fun k=>⟨[(1,.sl w.length (HL.ints w)),(5,.pref 0 [] 0),(6,.sl fin.length (dW LT)),(9,.ref 1 [] 2 0 k),(47,.ref 2 [] 1 0 fl.length),(48,.int .i64 fl.length),(49,.int .i64 k)],[(0,.optr [.sl w.length (HL.ints w),.osl 1 fin.length (fA LF),.omap ⟨.ints 2,none⟩ [] []]),(1,.osl 2 k (rG ((fl.take k).map fun p=>(p,(w.length:Int))))),(2,.osl 1 fl.length (HL.ints fl))],3⟩)
   (fun k=>fl.length - k) 0 (by omega) rfl ?_
  intro k hk
  by_cases hkl:k<fl.length
  ·have htk:=dh hkl
   have hpl:((fl.take k).map fun p=>(p,(w.length:Int))).length=k:=by simp;omega
   have hps2:((fl.take k).map fun p=>(p,(w.length:Int)))++[(fl.getD k 0,(w.length:Int))]=(fl.take (k+1)).map fun p=>(p,(w.length:Int)):=by rw [htk,List.map_append];rfl
   generalize (fl.take k).map (fun p=>(p,(w.length:Int)))=tk at hpl hps2
   repeat (first|refine ag ?_|refine nY (by rfl) (by rfl) (by omega) dZ ?_|refine aY ?_|refine af ?_|refine az ?_|refine bz ?_|refine aP ?_|refine ak ?_|refine ah ?_|refine ae ?_|refine aG ?_|refine fJ ?_|refine aA ?_|refine bQ ?_|refine gZ ?_|refine di ?_)
   exact dC [1,5,6,9,47,48,49] (k+1) hkl (by omega) (by rw [<- hps2];rfl)
  ·obtain rfl:k=fl.length:=by omega
   rw [List.take_length]
   have hs:=SI.start (al:=al) (w:=w) hmf
   have hpl:(fl.map fun p=>(p,(w.length:Int))).length=fl.length:=by simp
   generalize fl.map (fun p=>(p,(w.length:Int)))=td0 at hs hpl
   rw [<- hpl]
   repeat (first|refine af ?_|refine az ?_|refine bF (by rfl) ?_|refine au ?_|refine ah ?_|refine ae ?_|refine aG ?_)
   refine cu [1,5,6,9] (fun s:List Nd×List Nd=>SI fin al w s.1 s.2/\s.2.length<=fl.length+s.1.length*al.length)
    (fun s=>⟨[(1,.sl w.length (HL.ints w)),(5,.pref 0 [] 0),(6,.sl fin.length (dW LT)),(9,.ref 1 [] 2 0 s.2.length)],[(0,.optr [.sl w.length (HL.ints w),.osl 1 fin.length (fA LF),.omap ⟨.ints 2,none⟩ (s.1.map pk) (jV s.1.length)]),(1,.osl 2 s.2.length (rG s.2))],2⟩)
    (fun s=>(fin.length*(w.length+1) - s.1.length)*(al.length+1)+s.2.length) ([],td0) ⟨hs,by simp;omega⟩ rfl ?_
   rintro ⟨G,td⟩ ⟨hsi,htd⟩
   simp only at hsi htd ⊢
   have hcard:=rD hsi.nodup fun x hx=>(hsi.good x (by simp [hx])).2
   have hb1:fin.length*(w.length+1)<=2048*1025:=Nat.mul_le_mul h2 (by omega)
   have hb2:G.length*al.length<=2048*1025*8192:=Nat.mul_le_mul (by omega) h3
   rcases List.eq_nil_or_concat td with rfl|⟨td',v,rfl⟩
   ·repeat (first|refine ag ?_|refine af ?_|refine fC (by rfl) ?_|refine bF (by rfl) ?_|refine au ?_|refine ah ?_|refine ae ?_|refine bW ?_)
    refine ax ?_
    exact ⟨G,by rw [RP,hfl];rfl,hsi.nodup,hsi.done⟩
   ·rw [List.concat_eq_append] at hsi htd ⊢
    have hsn:(td'++[v]).length=td'.length+1:=by simp
    have hv1:=(hsi.good v (by simp)).2
    have hgv:(td'++[v]).getD td'.length default=v:=Gn _ _ _ rfl
    have hz:(((td'.length+1:Nat):Int) - 1).toNat=td'.length:=by omega
    rw [hsn] at htd ⊢
    repeat (first|refine ag ?_|refine nY (by rfl) (by rfl) (by omega) dZ ?_|refine af ?_|refine fC (by rfl) ?_|refine ak ?_|refine ah ?_|refine ae ?_|refine aG ?_|refine aA ?_|refine EO (by rfl) (by rfl) (by (try simp (disch:=omega) only [go_sem,Int.reduceAdd,Int.reduceSub,Int.reduceMul,hz,hgv]);try rfl) ?_|refine bW ?_|refine iR (by rfl) bT aV aS (by decide) (by (try simp (disch:=omega) only [go_sem,reduceIte,Nat.reduceEqDiff,Nat.reduceAdd,Nat.reduceMul,hz,hgv]);try rfl) iO ?_|refine zM (by rfl) aJ aV iO (by rfl) (by decide) bT aV aS (by (try simp (disch:=omega) only [go_sem,hz,hgv]);try rfl) aV ?_|refine PM (by rfl) (by rfl) (by rfl) (by omega) aV dZ ?_|refine bY dZ ?_)
    refine D9 9 [1,5,6,9,12] ⟨[(1,.sl w.length (HL.ints w)),(5,.pref 0 [] 0),(6,.sl fin.length (dW LT)),(9,.ref 1 [] 2 0 td'.length),(12,.pref 2 [] 0)],[(0,.optr [.sl w.length (HL.ints w),.osl 1 fin.length (fA LF),.omap ⟨.ints 2,none⟩ (G.map pk) (jV G.length)]),(1,.osl 2 td'.length (rG td')),(2,.optr [.int .i64 v.1,.int .i64 v.2])],3⟩ rfl rfl (by omega) (BG _) (by decide) (by rw [hz,Jr];rfl) ?_
    obtain ⟨v1,v2⟩:=v
    by_cases hG:(v1,v2)∈G
    ·have hd:decide ((v1,v2)∈G)=true:=decide_eq_true hG
     refine fB bK bK (fun _ _ _=>False) ?_
     repeat (first|refine ag ?_|refine iw (by rfl) bT (by (try simp (disch:=omega) only [go_sem,reduceIte,Nat.reduceEqDiff,Nat.reduceAdd,Nat.reduceMul,hd]);try rfl) aS (by (try simp (disch:=omega) only [go_sem,hd]);try rfl) aJ ?_|refine af ?_|refine bF (by rfl) ?_|refine ak ?_|refine aI ?_|refine iR (by rfl) bT aV aS (by decide) (by (try simp (disch:=omega) only [go_sem,reduceIte,Nat.reduceEqDiff,Nat.reduceAdd,Nat.reduceMul,hd]);try rfl) iO ?_|refine oJ (by rfl) (by rfl) (by exact eY rfl) aJ ⟨rfl,rfl⟩ (by (try simp (disch:=omega) only [go_sem,reduceIte,Nat.reduceEqDiff,Nat.reduceAdd,Nat.reduceMul,hd]);try rfl) (by rfl) ?_|refine gq aJ rfl ?_)
     exact dC [1,5,6,9] (G,td') ⟨hsi.skip hG,by simp only;omega⟩ iC rfl
    ·have hd:decide ((v1,v2)∈G)=false:=decide_eq_false hG
     have hins:ins (v1,v2) G=G++[(v1,v2)]:=by unfold ins;rw [if_neg hG]
     have hgl:(G++[(v1,v2)]).length=G.length+1:=by simp
     have hst:=hsi.step (fun a ha=>Xw hv a ha) hG
     have hcard':=rD hst.nodup fun x hx=>(hst.good x (by simp only [List.mem_append] at hx ⊢;exact .inl hx)).2
     rw [hgl] at hcard'
     obtain ⟨g1,g2,g3,g4⟩:=hv1
     simp only at g1 g2 g3 g4
     have hrow:=hrt v1.toNat (by omega)
     rw [show ((v1.toNat:Nat):Int)=v1 by omega] at hrow
     have hrl:(LT.getD v1.toNat []).length<=al.length:=by rw [hrow];exact List.length_filter_le _ _
     have hrm:∀k,k<(LT.getD v1.toNat []).length->(LT.getD v1.toNat []).getD k default∈al:=fun k hk=>by
      have:=mg hk
      rw [hrow] at this ⊢
      exact (List.mem_filter.1 this).1
     rw [<- hrow] at hst
     generalize hR:LT.getD v1.toNat []=R at hrl hrm hst
     refine fB bK bK (fun _ _ _=>False) ?_
     repeat (first|refine ag ?_|refine iw (by rfl) bT (by (try simp (disch:=omega) only [go_sem,reduceIte,Nat.reduceEqDiff,Nat.reduceAdd,Nat.reduceMul,hd]);try rfl) aS (by (try simp (disch:=omega) only [go_sem,hd]);try rfl) aJ ?_|refine af ?_|refine au ?_|refine ah ?_|refine aA ?_|refine aI ?_|refine iR (by rfl) bT aV aS (by decide) (by (try simp (disch:=omega) only [go_sem,reduceIte,Nat.reduceEqDiff,Nat.reduceAdd,Nat.reduceMul,hd]);try rfl) iO ?_|refine oJ (by rfl) (by rfl) (by exact eY rfl) aJ ⟨rfl,rfl⟩ (by (try simp (disch:=omega) only [go_sem,reduceIte,Nat.reduceEqDiff,Nat.reduceAdd,Nat.reduceMul,hd]);try rfl) (by rfl) ?_|refine gq aJ rfl ?_)
     refine fB bK bK (fun _ _ _=>False) ?_
     repeat (first|refine ag ?_|refine aT ?_|refine jc (by rfl) aS (by (try simp (disch:=omega) only [go_sem,hins,hR]);try rfl) ?_|refine iw (by rfl) bT (by (try simp (disch:=omega) only [go_sem,reduceIte,Nat.reduceEqDiff,Nat.reduceAdd,Nat.reduceMul,hins,hR]);try rfl) aS (by (try simp (disch:=omega) only [go_sem,hins,hR]);try rfl) aJ ?_|refine af ?_|refine aP ?_|refine ah ?_|refine ae ?_|refine aG ?_|refine aI ?_|refine iR (by rfl) bT aV aS (by decide) (by (try simp (disch:=omega) only [go_sem,reduceIte,Nat.reduceEqDiff,Nat.reduceAdd,Nat.reduceMul,hins,hR]);try rfl) iO ?_|refine o7 (by rfl) aJ aJ kS (by trivial) kS (by exact eY rfl) ⟨rfl,rfl⟩ (by (try simp (disch:=omega) only [go_sem,reduceIte,Nat.reduceEqDiff,Nat.reduceAdd,Nat.reduceMul,hins,hR]);try rfl) aV jA ?_|refine gq aJ rfl ?_)
     refine cu [1,5,6,9,12,90,91,92] (fun k:Nat=>k<=R.length)
      (fun k=>⟨[(1,.sl w.length (HL.ints w)),(5,.pref 0 [] 0),(6,.sl fin.length (dW LT)),(9,.ref 1 [] 2 0 (td'++(R.take k).filterMap (jl w (v1,v2))).length),(12,.pref 2 [] 0),(90,.sl R.length (recs aC R)),(91,.int .i64 R.length),(92,.int .i64 k)],[(0,.optr [.sl w.length (HL.ints w),.osl 1 fin.length (fA LF),.omap ⟨.ints 2,none⟩ ((G++[(v1,v2)]).map pk) (jV (G++[(v1,v2)]).length)]),(1,.osl 2 (td'++(R.take k).filterMap (jl w (v1,v2))).length (rG (td'++(R.take k).filterMap (jl w (v1,v2))))),(2,.optr [.int .i64 v1,.int .i64 v2])],3⟩)
      (fun k=>R.length - k) 0 (by omega) (by simp only [List.take_zero,List.filterMap_nil,List.append_nil];rfl) ?_
     intro k hk
     by_cases hkl:k<R.length
     ·have ha:=fU hv (hrm k hkl)
      have hT:=KT (w:=w) (y:=(v1,v2)) td' hkl
      have hTl:(td'++(R.take k).filterMap (jl w (v1,v2))).length<=td'.length+k:=by
       have:=List.length_filterMap_le (jl w (v1,v2)) (R.take k)
       rw [List.length_take] at this
       rw [List.length_append];omega
      generalize (td'++(R.take k).filterMap (jl w (v1,v2)))=T at hT hTl
      by_cases hi:(R.getD k default).i = -1
      ·have hp:jl w (v1,v2) (R.getD k default)=some ((R.getD k default).f,v2):=by simp only [jl,if_pos hi]
       have hTl2:(T++[((R.getD k default).f,v2)]).length=T.length+1:=by simp
       rw [hp] at hT
       repeat (first|refine ag ?_|refine aT ?_|refine aY ?_|refine af ?_|refine az ?_|refine dH ?_|refine bz ?_|refine ak ?_|refine ah ?_|refine ae ?_|refine aG ?_|refine fJ ?_|refine aA ?_|refine aI ?_|refine bI ?_|refine dJ ?_|refine bQ ?_|refine bY dZ ?_|refine gZ ?_|refine di ?_)
       exact dC [1,5,6,9,12,90,91,92] (k+1) hkl (by omega) (by simp only [hT,Option.toList_some,hTl2];rfl)
      ·by_cases h0:0<v2
       ·by_cases he:w.getD (v2 - 1).toNat 0=(R.getD k default).i
        ·have hp:jl w (v1,v2) (R.getD k default)=some ((R.getD k default).f,v2 - 1):=by simp only [jl,if_neg hi];exact if_pos ⟨h0,he⟩
         have hTl2:(T++[((R.getD k default).f,v2 - 1)]).length=T.length+1:=by simp
         rw [hp] at hT
         repeat (first|refine aT ?_|refine aY ?_|refine af ?_|refine az ?_|refine dH ?_|refine ak ?_|refine au ?_|refine ah ?_|refine ae ?_|refine aG ?_|refine aA ?_|refine aI ?_|refine bI ?_|refine dJ ?_|refine bY dZ ?_)
         refine fB bK bK (fun _ _ _=>False) ?_
         repeat (first|refine ag ?_|refine aQ ?_|refine aT ?_|refine bU ?_|refine aY ?_|refine af ?_|refine dH ?_|refine aO ?_|refine bz ?_|refine ak ?_|refine ae ?_|refine fJ ?_|refine EO (by rfl) (by rfl) Lu ?_|refine bW ?_|refine aI ?_|refine bQ ?_|refine gZ ?_|refine di ?_)
         exact dC [1,5,6,9,12,90,91,92] (k+1) hkl (by omega) (by simp only [hT,Option.toList_some,hTl2];rfl)
        ·have hp:jl w (v1,v2) (R.getD k default)=none:=by simp only [jl,if_neg hi];exact if_neg fun h=>he h.2
         rw [hp] at hT
         repeat (first|refine aT ?_|refine aY ?_|refine af ?_|refine az ?_|refine dH ?_|refine ak ?_|refine au ?_|refine ah ?_|refine ae ?_|refine aG ?_|refine aA ?_|refine aI ?_|refine bI ?_|refine dJ ?_|refine bY dZ ?_)
         refine fB bK bK (fun _ _ _=>False) ?_
         repeat (first|refine ag ?_|refine aQ ?_|refine aT ?_|refine bU ?_|refine aY ?_|refine af ?_|refine dH ?_|refine aO ?_|refine bz ?_|refine au ?_|refine ae ?_|refine fJ ?_|refine aA ?_|refine EO (by rfl) (by rfl) Lu ?_|refine bW ?_|refine aI ?_)
         exact dC [1,5,6,9,12,90,91,92] (k+1) hkl (by omega) (by simp only [hT,Option.toList_none,List.append_nil];rfl)
       ·have hp:jl w (v1,v2) (R.getD k default)=none:=by simp only [jl,if_neg hi];exact if_neg fun h=>h0 h.1
        rw [hp] at hT
        repeat (first|refine aT ?_|refine aY ?_|refine af ?_|refine az ?_|refine dH ?_|refine ak ?_|refine au ?_|refine ah ?_|refine ae ?_|refine aG ?_|refine aA ?_|refine aI ?_|refine bI ?_|refine dJ ?_|refine bY dZ ?_)
        refine fB bK bK (fun _ _ _=>False) ?_
        repeat (first|refine ag ?_|refine dm ?_|refine aY ?_|refine af ?_|refine aK ?_|refine bz ?_|refine au ?_|refine ae ?_|refine fJ ?_|refine aA ?_|refine bW ?_|refine aI ?_)
        exact dC [1,5,6,9,12,90,91,92] (k+1) hkl (by omega) (by simp only [hT,Option.toList_none,List.append_nil];rfl)
     ·obtain rfl:k=R.length:=by omega
      rw [List.take_length]
      have hTl:(td'++R.filterMap (jl w (v1,v2))).length<=td'.length+R.length:=by
       have:=List.length_filterMap_le (jl w (v1,v2)) R
       rw [List.length_append];omega
      generalize (td'++R.filterMap (jl w (v1,v2)))=T at hst hTl
      repeat (first|refine af ?_|refine az ?_|refine bF (by rfl) ?_|refine au ?_|refine ah ?_|refine ae ?_|refine fJ ?_)
      exact dC [1,5,6,9] (G++[(v1,v2)],T) ⟨hst,by simp only [hgl,Nat.add_mul,Nat.one_mul];omega⟩ (by
       simp only [hgl]
       have:fin.length*(w.length+1) - G.length=(fin.length*(w.length+1) - (G.length+1))+1:=by omega
       rw [this,Nat.add_mul _ 1];omega) rfl
end Go.Proofs.Ytlbdmpjnmfmnfaa
