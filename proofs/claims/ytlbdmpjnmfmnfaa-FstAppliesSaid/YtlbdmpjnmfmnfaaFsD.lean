import Derived.Test.YtlbdmpjnmfmnfaaFsC
import Derived.Test.YtlbdmpjnmfmnfaaFsW
import Derived.Test.YtlbdmpjnmfmnfaaHlNv
set_option linter.unusedSimpArgs false
set_option linter.unusedVariables false
namespace Go.Proofs.Ytlbdmpjnmfmnfaa
open Go.RowKit Go.HL Go.FS
theorem Y0 {fin:List Bool} {al:List A} (h:okF fin al=true):∀a∈al,0<=a.f/\a.f<fin.length:=fun a ha=>⟨(fE h ha).1,(fE h ha).2.1⟩
theorem Ig (ll:List (List A)) {n:Nat} (h:ll.length=n):stripL (win (fA ll) 0 (n*1))=dL ll:=by
 rw [<- jv,win,if_pos ⟨rfl,by rw [oh];omega⟩]
theorem Jv (l:List Nd) (v:Nd):(sO (l++[v])).take (l.length*2)=sO l:=by
 rw [show sO (l++[v])=sO l++pC v by simp [recs],List.take_left' (FC l)]
theorem J3 {w:List Int} {y:Nd} {R:List A} {k:Nat} (td:List Nd) (h:k<R.length):td++(R.take (k+1)).filterMap (iR w y)=(td++(R.take k).filterMap (iR w y))++(iR w y (R.getD k default)).toList:=by
 rw [dE h,List.filterMap_append,List.append_assoc]
 generalize R.getD k default=a
 cases hp:iR w y a<;>simp [hp]
theorem G6 {α:Type} (l:List α) (v d:α) {i:Nat} (h:i=l.length):(l++[v]).getD i d=v:=by subst h;simp
def UC (w:List Int) (ll:List (List A)) (G:List Nd):HV:=.optr [.sl w.length (HL.ints w),.osl 1 ll.length (fA ll),.omap ⟨.ints 2,none⟩ (G.map pk) (kU G.length)]
set_option maxHeartbeats 8000000 in
theorem Ll (fin:List Bool) (al:List A) (w:List Int) (hv:okF fin al=true) (hw:w.length<=1024):HT Try.prog 54 [.agg (fK fin al),.sl w.length (HL.ints w)] (fun r=>∃G,r=UC w (bn (·.f) fin.length al) G/\G.Nodup/\∀x,x∈G <-> FS.Good fin al w x):=by
 obtain ⟨h1,h2,h3⟩:=iF hv
 refine HT.of rfl abP (Nat.le_of_ble_eq_true rfl) ?_
 unfold c54
 simp only [aX,Nat.reduceAdd,fK,gX]
 repeat (first|refine ah ?_|refine af ?_|refine au ?_|refine ae ?_|refine fU ?_|refine di ?_)
 refine dF bW dm (Fj fin al hv) ?_
 rintro _ rfl
 refine ⟨cO,_,_,_,_,_,gY,(by decide),bT,?_⟩
 have hfl:=fJ (·.f) fin.length al
 generalize hLF:bn (·.f) fin.length al=LF at hfl
 repeat (first|refine ug dN ?_|refine dB ?_)
 refine Ox dN aQ aI iW kG (by rfl) (by simp only [rJ,List.cons_append,List.nil_append,List.append_nil,List.map_cons,List.map_nil,if_true,if_false,reduceIte];try rfl) ?_
 repeat (first|refine ah ?_|refine aS ?_|refine af ?_|refine aB ?_|refine au ?_|refine ae ?_|refine aA ?_|refine aF ?_|refine lH dN (by rfl) (by omega) aI aI ?_)
 rw [<- oQ (·.t)]
 refine bQ [1,2,5,6,26,27,28] (fun k:Nat=>k<=al.length)
  (fun k=>⟨[(1,.sl w.length (HL.ints w)),(2,.pref 0 [] 0),(5,.pref 1 [] 0),(6,.ref 2 [] 1 0 fin.length),(26,.sl al.length (recs aC al)),(27,.int .i64 al.length),(28,.int .i64 k)],[(0,.optr [.sl fin.length (HL.bools fin),.sl al.length (recs aC al)]),(1,.optr [.sl w.length (HL.ints w),.osl 1 fin.length (fA LF),.omap ⟨.ints 2,none⟩ [] []]),(2,.osl 1 fin.length (fA (bn (·.t) fin.length (al.take k))))],3⟩)
  (fun k=>al.length - k) 0 (by omega) rfl ?_
 intro k hk
 by_cases hkl:k<al.length
 ·have ha:=fE hv (gU hkl)
  have hlen:=fJ (·.t) fin.length (al.take k)
  have hrow:((bn (·.t) fin.length (al.take k)).getD (al.getD k default).t.toNat []).length<=8192:=Nat.le_trans oz (by simp;omega)
  have hst:=nD (p:=(·.t)) (n:=fin.length) (l:=al.take k) (a:=al.getD k default) (j:=(al.getD k default).t.toNat) (by omega)
  rw [<- dE hkl] at hst
  have hro:=rq (bn (·.t) fin.length (al.take k)) (al.getD k default).t.toNat ((bn (·.t) fin.length (al.take k)).getD (al.getD k default).t.toNat []++[al.getD k default]) .dead (n:=((bn (·.t) fin.length (al.take k)).getD (al.getD k default).t.toNat []).length+1) (by simp)
  rw [hst] at hro
  repeat (first|refine aJ ?_|refine af ?_|refine ay ?_|refine ak ?_|refine au ?_|refine ae ?_|refine aA ?_|refine aH ?_|refine bz ?_|refine dn ?_|refine bU dN ?_)
  refine bF 51 [1,2,5,6,8,26,27,28] ⟨[(1,.sl w.length (HL.ints w)),(2,.pref 0 [] 0),(5,.pref 1 [] 0),(6,.ref 2 [] 1 0 fin.length),(8,.ptr (aC (al.getD k default)) 0),(26,.sl al.length (recs aC al)),(27,.int .i64 al.length),(28,.int .i64 k)],[(0,.optr [.sl fin.length (HL.bools fin),.sl al.length (recs aC al)]),(1,.optr [.sl w.length (HL.ints w),.osl 1 fin.length (fA LF),.omap ⟨.ints 2,none⟩ [] []]),(2,.osl 1 fin.length (fA (bn (·.t) fin.length (al.take k))))],3⟩ rfl ?_
  unfold PI
  refine iU [8] [6] bu bu (fun _ _ _=>False) (by simp [aV,HV.deep,bK,aC]) (by simp [aV,HV.deep,bK]) ?_
  simp only [aC]
  repeat (first|refine ah ?_|refine cZ ?_|refine dA (by rfl) aG (by (try simp (disch:=omega) only [go_sem,hro]);try rfl) ?_|refine dK (by rfl) aW (by (try simp (disch:=omega) only [go_sem,reduceIte,Nat.reduceEqDiff,Nat.reduceAdd,Nat.reduceMul,hro]);try rfl) aG (by (try simp (disch:=omega) only [go_sem,hro]);try rfl) aQ ?_|refine af ?_|refine eU (by rfl) (by rfl) (by (try simp (disch:=omega) only [go_sem,Int.reduceAdd,Int.reduceSub,Int.reduceMul,hro]);try rfl) ?_|refine ae ?_|refine dH ?_|refine aY ?_|refine gB (by rfl) aG (by (try simp (disch:=omega) only [go_sem,reduceIte,Nat.reduceEqDiff,Nat.reduceAdd,Nat.reduceMul,hro]);try rfl) ?_|refine kF (by rfl) aQ aI iW kG (by rfl) kX (by rfl) kY (by (try simp (disch:=omega) only [go_sem,reduceIte,Nat.reduceEqDiff,Nat.reduceAdd,Nat.reduceMul,hro]);try rfl) aG (by (try simp (disch:=omega) only [go_sem,hro]);try rfl) aI jk ?_|refine bP ?_|refine iM dN (by rfl) aQ l9 (by (try simp (disch:=omega) only [go_sem,reduceIte,Nat.reduceEqDiff,Nat.reduceAdd,Nat.reduceMul,hro]);try omega) aW (by (try simp (disch:=omega) only [go_sem,reduceIte,Nat.reduceEqDiff,Nat.reduceAdd,Nat.reduceMul,hro]);try rfl) dN (by omega) fP aG (by (try simp (disch:=omega) only [go_sem,reduceIte,Nat.reduceEqDiff,Nat.reduceAdd,Nat.reduceMul,hro]);try rfl) aI ?_)
  exact bZ [1,2,5,6,26,27,28] (k+1) hkl (by omega) rfl
 ·obtain rfl:k=al.length:=by omega
  rw [List.take_length]
  repeat (first|refine aS ?_|refine af ?_|refine ay ?_|refine bD (by rfl) ?_|refine ax ?_|refine au ?_|refine ae ?_|refine aZ ?_|refine aF ?_)
  refine dF bW dm (Iw fin (by omega)) ?_
  rintro _ rfl
  refine ⟨cO,_,_,_,_,_,gY,(by decide),bT,?_⟩
  have hfin:=xO fin fin.length
  have hmf:=fun p=>mem_finL (fin:=fin) (p:=p)
  generalize hFL:pW fin fin.length=fl at hfin hmf
  have htl:=fJ (·.t) fin.length al
  have hrt:∀i:Nat,i<fin.length->(bn (·.t) fin.length al).getD i []=al.filter fun a=>a.t==(i:Int):=fun i hi=>jh _ _ hi
  generalize hLT:bn (·.t) fin.length al=LT at htl hrt
  repeat (first|refine ah ?_|refine af ?_|refine dO (by rfl) ?_|refine aA ?_)
  refine bF 2 [1,5,6,9,47,48,49] ⟨[(1,.sl w.length (HL.ints w)),(5,.pref 0 [] 0),(6,.sl fin.length (dL LT)),(9,.ref 1 [] 2 0 0),(47,.ref 2 [] 1 0 fl.length),(48,.int .i64 fl.length),(49,.int .i64 0)],[(0,.optr [.sl w.length (HL.ints w),.osl 1 fin.length (fA LF),.omap ⟨.ints 2,none⟩ [] []]),(1,.osl 2 0 []),(2,.osl 1 fl.length (HL.ints fl))],3⟩ (by rw [<- Ig LT htl];rfl) ?_
  refine bQ [1,5,6,9,47,48,49] (fun k:Nat=>k<=fl.length)
   (fun k=>⟨[(1,.sl w.length (HL.ints w)),(5,.pref 0 [] 0),(6,.sl fin.length (dL LT)),(9,.ref 1 [] 2 0 k),(47,.ref 2 [] 1 0 fl.length),(48,.int .i64 fl.length),(49,.int .i64 k)],[(0,.optr [.sl w.length (HL.ints w),.osl 1 fin.length (fA LF),.omap ⟨.ints 2,none⟩ [] []]),(1,.osl 2 k (sO ((fl.take k).map fun p=>(p,(w.length:Int))))),(2,.osl 1 fl.length (HL.ints fl))],3⟩)
   (fun k=>fl.length - k) 0 (by omega) rfl ?_
  intro k hk
  by_cases hkl:k<fl.length
  ·have htk:=dE hkl
   have hpl:((fl.take k).map fun p=>(p,(w.length:Int))).length=k:=by simp;omega
   have hps2:((fl.take k).map fun p=>(p,(w.length:Int)))++[(fl.getD k 0,(w.length:Int))]=(fl.take (k+1)).map fun p=>(p,(w.length:Int)):=by rw [htk,List.map_append];rfl
   generalize (fl.take k).map (fun p=>(p,(w.length:Int)))=tk at hpl hps2
   repeat (first|refine ah ?_|refine cZ ?_|refine aS ?_|refine af ?_|refine ay ?_|refine bf ?_|refine aB ?_|refine ak ?_|refine au ?_|refine ae ?_|refine aA ?_|refine dH ?_|refine aH ?_|refine bP ?_|refine gz ?_|refine dB ?_)
   exact bZ [1,5,6,9,47,48,49] (k+1) hkl (by omega) (by rw [<- hps2];rfl)
  ·obtain rfl:k=fl.length:=by omega
   rw [List.take_length]
   have hs:=SI.start (al:=al) (w:=w) hmf
   have hpl:(fl.map fun p=>(p,(w.length:Int))).length=fl.length:=by simp
   generalize fl.map (fun p=>(p,(w.length:Int)))=td0 at hs hpl
   rw [<- hpl]
   repeat (first|refine af ?_|refine ay ?_|refine bD (by rfl) ?_|refine ax ?_|refine au ?_|refine ae ?_|refine aA ?_)
   refine bQ [1,5,6,9] (fun s:List Nd×List Nd=>SI fin al w s.1 s.2/\s.2.length<=fl.length+s.1.length*al.length)
    (fun s=>⟨[(1,.sl w.length (HL.ints w)),(5,.pref 0 [] 0),(6,.sl fin.length (dL LT)),(9,.ref 1 [] 2 0 s.2.length)],[(0,.optr [.sl w.length (HL.ints w),.osl 1 fin.length (fA LF),.omap ⟨.ints 2,none⟩ (s.1.map pk) (kU s.1.length)]),(1,.osl 2 s.2.length (sO s.2))],2⟩)
    (fun s=>(fin.length*(w.length+1) - s.1.length)*(al.length+1)+s.2.length) ([],td0) ⟨hs,by simp;omega⟩ rfl ?_
   rintro ⟨G,td⟩ ⟨hsi,htd⟩
   simp only at hsi htd ⊢
   have hcard:=iP hsi.nodup fun x hx=>(hsi.good x (by simp [hx])).2
   have hb1:fin.length*(w.length+1)<=2048*1025:=Nat.mul_le_mul h2 (by omega)
   have hb2:G.length*al.length<=2048*1025*8192:=Nat.mul_le_mul (by omega) h3
   rcases List.eq_nil_or_concat td with rfl|⟨td',v,rfl⟩
   ·repeat (first|refine ah ?_|refine af ?_|refine dO (by rfl) ?_|refine bD (by rfl) ?_|refine ax ?_|refine au ?_|refine ae ?_|refine bI ?_)
    refine az ?_
    exact ⟨G,by rw [UC,hfl];rfl,hsi.nodup,hsi.done⟩
   ·rw [List.concat_eq_append] at hsi htd ⊢
    have hsn:(td'++[v]).length=td'.length+1:=by simp
    have hv1:=(hsi.good v (by simp)).2
    have hgv:(td'++[v]).getD td'.length default=v:=G6 _ _ _ rfl
    have hz:(((td'.length+1:Nat):Int) - 1).toNat=td'.length:=by omega
    rw [hsn] at htd ⊢
    repeat (first|refine ah ?_|refine cZ ?_|refine af ?_|refine dO (by rfl) ?_|refine ak ?_|refine au ?_|refine ae ?_|refine aA ?_|refine aH ?_|refine wS (by rfl) (by rfl) (by (try simp (disch:=omega) only [go_sem,Int.reduceAdd,Int.reduceSub,Int.reduceMul,hz,hgv]);try rfl) ?_|refine bI ?_|refine iE (by rfl) aW aI aG (by decide) (by (try simp (disch:=omega) only [go_sem,reduceIte,Nat.reduceEqDiff,Nat.reduceAdd,Nat.reduceMul,hz,hgv]);try rfl) fH ?_|refine kL (by rfl) aQ aI fH (by rfl) (by decide) aW aI aG (by (try simp (disch:=omega) only [go_sem,hz,hgv]);try rfl) aI ?_|refine SL (by rfl) (by rfl) (by rfl) (by omega) aI dN ?_|refine bU dN ?_)
    refine D8 9 [1,5,6,9,12] ⟨[(1,.sl w.length (HL.ints w)),(5,.pref 0 [] 0),(6,.sl fin.length (dL LT)),(9,.ref 1 [] 2 0 td'.length),(12,.pref 2 [] 0)],[(0,.optr [.sl w.length (HL.ints w),.osl 1 fin.length (fA LF),.omap ⟨.ints 2,none⟩ (G.map pk) (kU G.length)]),(1,.osl 2 td'.length (sO td')),(2,.optr [.int .i64 v.1,.int .i64 v.2])],3⟩ rfl rfl (by omega) (BK _) (by decide) (by rw [hz,Jv];rfl) ?_
    obtain ⟨v1,v2⟩:=v
    by_cases hG:(v1,v2)∈G
    ·have hd:decide ((v1,v2)∈G)=true:=decide_eq_true hG
     refine dG bu bu (fun _ _ _=>False) ?_
     repeat (first|refine ah ?_|refine dK (by rfl) aW (by (try simp (disch:=omega) only [go_sem,reduceIte,Nat.reduceEqDiff,Nat.reduceAdd,Nat.reduceMul,hd]);try rfl) aG (by (try simp (disch:=omega) only [go_sem,hd]);try rfl) aQ ?_|refine af ?_|refine bD (by rfl) ?_|refine ak ?_|refine aF ?_|refine iE (by rfl) aW aI aG (by decide) (by (try simp (disch:=omega) only [go_sem,reduceIte,Nat.reduceEqDiff,Nat.reduceAdd,Nat.reduceMul,hd]);try rfl) fH ?_|refine pI (by rfl) (by rfl) (by exact eY rfl) aQ ⟨rfl,rfl⟩ (by (try simp (disch:=omega) only [go_sem,reduceIte,Nat.reduceEqDiff,Nat.reduceAdd,Nat.reduceMul,hd]);try rfl) (by rfl) ?_|refine iD aQ rfl ?_)
     exact bZ [1,5,6,9] (G,td') ⟨hsi.skip hG,by simp only;omega⟩ dW rfl
    ·have hd:decide ((v1,v2)∈G)=false:=decide_eq_false hG
     have hins:ins (v1,v2) G=G++[(v1,v2)]:=by unfold ins;rw [if_neg hG]
     have hgl:(G++[(v1,v2)]).length=G.length+1:=by simp
     have hst:=hsi.step (fun a ha=>Y0 hv a ha) hG
     have hcard':=iP hst.nodup fun x hx=>(hst.good x (by simp only [List.mem_append] at hx ⊢;exact .inl hx)).2
     rw [hgl] at hcard'
     obtain ⟨g1,g2,g3,g4⟩:=hv1
     simp only at g1 g2 g3 g4
     have hrow:=hrt v1.toNat (by omega)
     rw [show ((v1.toNat:Nat):Int)=v1 by omega] at hrow
     have hrl:(LT.getD v1.toNat []).length<=al.length:=by rw [hrow];exact List.length_filter_le _ _
     have hrm:∀k,k<(LT.getD v1.toNat []).length->(LT.getD v1.toNat []).getD k default∈al:=fun k hk=>by
      have:=gU hk
      rw [hrow] at this ⊢
      exact (List.mem_filter.1 this).1
     rw [<- hrow] at hst
     generalize hR:LT.getD v1.toNat []=R at hrl hrm hst
     refine dG bu bu (fun _ _ _=>False) ?_
     repeat (first|refine ah ?_|refine dK (by rfl) aW (by (try simp (disch:=omega) only [go_sem,reduceIte,Nat.reduceEqDiff,Nat.reduceAdd,Nat.reduceMul,hd]);try rfl) aG (by (try simp (disch:=omega) only [go_sem,hd]);try rfl) aQ ?_|refine af ?_|refine ax ?_|refine au ?_|refine aH ?_|refine aF ?_|refine iE (by rfl) aW aI aG (by decide) (by (try simp (disch:=omega) only [go_sem,reduceIte,Nat.reduceEqDiff,Nat.reduceAdd,Nat.reduceMul,hd]);try rfl) fH ?_|refine pI (by rfl) (by rfl) (by exact eY rfl) aQ ⟨rfl,rfl⟩ (by (try simp (disch:=omega) only [go_sem,reduceIte,Nat.reduceEqDiff,Nat.reduceAdd,Nat.reduceMul,hd]);try rfl) (by rfl) ?_|refine iD aQ rfl ?_)
     refine dG bu bu (fun _ _ _=>False) ?_
     repeat (first|refine ah ?_|refine aJ ?_|refine dA (by rfl) aG (by (try simp (disch:=omega) only [go_sem,hins,hR]);try rfl) ?_|refine dK (by rfl) aW (by (try simp (disch:=omega) only [go_sem,reduceIte,Nat.reduceEqDiff,Nat.reduceAdd,Nat.reduceMul,hins,hR]);try rfl) aG (by (try simp (disch:=omega) only [go_sem,hins,hR]);try rfl) aQ ?_|refine af ?_|refine aB ?_|refine au ?_|refine ae ?_|refine aA ?_|refine aF ?_|refine iE (by rfl) aW aI aG (by decide) (by (try simp (disch:=omega) only [go_sem,reduceIte,Nat.reduceEqDiff,Nat.reduceAdd,Nat.reduceMul,hins,hR]);try rfl) fH ?_|refine pY (by rfl) aQ aQ lL (by trivial) lL (by exact eY rfl) ⟨rfl,rfl⟩ (by (try simp (disch:=omega) only [go_sem,reduceIte,Nat.reduceEqDiff,Nat.reduceAdd,Nat.reduceMul,hins,hR]);try rfl) aI jk ?_|refine iD aQ rfl ?_)
     refine bQ [1,5,6,9,12,90,91,92] (fun k:Nat=>k<=R.length)
      (fun k=>⟨[(1,.sl w.length (HL.ints w)),(5,.pref 0 [] 0),(6,.sl fin.length (dL LT)),(9,.ref 1 [] 2 0 (td'++(R.take k).filterMap (iR w (v1,v2))).length),(12,.pref 2 [] 0),(90,.sl R.length (recs aC R)),(91,.int .i64 R.length),(92,.int .i64 k)],[(0,.optr [.sl w.length (HL.ints w),.osl 1 fin.length (fA LF),.omap ⟨.ints 2,none⟩ ((G++[(v1,v2)]).map pk) (kU (G++[(v1,v2)]).length)]),(1,.osl 2 (td'++(R.take k).filterMap (iR w (v1,v2))).length (sO (td'++(R.take k).filterMap (iR w (v1,v2))))),(2,.optr [.int .i64 v1,.int .i64 v2])],3⟩)
      (fun k=>R.length - k) 0 (by omega) (by simp only [List.take_zero,List.filterMap_nil,List.append_nil];rfl) ?_
     intro k hk
     by_cases hkl:k<R.length
     ·have ha:=fE hv (hrm k hkl)
      have hT:=J3 (w:=w) (y:=(v1,v2)) td' hkl
      have hTl:(td'++(R.take k).filterMap (iR w (v1,v2))).length<=td'.length+k:=by
       have:=List.length_filterMap_le (iR w (v1,v2)) (R.take k)
       rw [List.length_take] at this
       rw [List.length_append];omega
      generalize (td'++(R.take k).filterMap (iR w (v1,v2)))=T at hT hTl
      by_cases hi:(R.getD k default).i = -1
      ·have hp:iR w (v1,v2) (R.getD k default)=some ((R.getD k default).f,v2):=by simp only [iR,if_pos hi]
       have hTl2:(T++[((R.getD k default).f,v2)]).length=T.length+1:=by simp
       rw [hp] at hT
       repeat (first|refine ah ?_|refine aJ ?_|refine aS ?_|refine af ?_|refine ay ?_|refine bC ?_|refine bf ?_|refine ak ?_|refine au ?_|refine ae ?_|refine aA ?_|refine dH ?_|refine aH ?_|refine aF ?_|refine bz ?_|refine dn ?_|refine bP ?_|refine bU dN ?_|refine gz ?_|refine dB ?_)
       exact bZ [1,5,6,9,12,90,91,92] (k+1) hkl (by omega) (by simp only [hT,Option.toList_some,hTl2];rfl)
      ·by_cases h0:0<v2
       ·by_cases he:w.getD (v2 - 1).toNat 0=(R.getD k default).i
        ·have hp:iR w (v1,v2) (R.getD k default)=some ((R.getD k default).f,v2 - 1):=by simp only [iR,if_neg hi];exact if_pos ⟨h0,he⟩
         have hTl2:(T++[((R.getD k default).f,v2 - 1)]).length=T.length+1:=by simp
         rw [hp] at hT
         repeat (first|refine aJ ?_|refine aS ?_|refine af ?_|refine ay ?_|refine bC ?_|refine ak ?_|refine ax ?_|refine au ?_|refine ae ?_|refine aA ?_|refine aH ?_|refine aF ?_|refine bz ?_|refine dn ?_|refine bU dN ?_)
         refine dG bu bu (fun _ _ _=>False) ?_
         repeat (first|refine ah ?_|refine aO ?_|refine aJ ?_|refine dD ?_|refine aS ?_|refine af ?_|refine bC ?_|refine aK ?_|refine bf ?_|refine ak ?_|refine ae ?_|refine dH ?_|refine wS (by rfl) (by rfl) JY ?_|refine bI ?_|refine aF ?_|refine bP ?_|refine gz ?_|refine dB ?_)
         exact bZ [1,5,6,9,12,90,91,92] (k+1) hkl (by omega) (by simp only [hT,Option.toList_some,hTl2];rfl)
        ·have hp:iR w (v1,v2) (R.getD k default)=none:=by simp only [iR,if_neg hi];exact if_neg fun h=>he h.2
         rw [hp] at hT
         repeat (first|refine aJ ?_|refine aS ?_|refine af ?_|refine ay ?_|refine bC ?_|refine ak ?_|refine ax ?_|refine au ?_|refine ae ?_|refine aA ?_|refine aH ?_|refine aF ?_|refine bz ?_|refine dn ?_|refine bU dN ?_)
         refine dG bu bu (fun _ _ _=>False) ?_
         repeat (first|refine ah ?_|refine aO ?_|refine aJ ?_|refine dD ?_|refine aS ?_|refine af ?_|refine bC ?_|refine aK ?_|refine bf ?_|refine ax ?_|refine ae ?_|refine dH ?_|refine aH ?_|refine wS (by rfl) (by rfl) JY ?_|refine bI ?_|refine aF ?_)
         exact bZ [1,5,6,9,12,90,91,92] (k+1) hkl (by omega) (by simp only [hT,Option.toList_none,List.append_nil];rfl)
       ·have hp:iR w (v1,v2) (R.getD k default)=none:=by simp only [iR,if_neg hi];exact if_neg fun h=>h0 h.1
        rw [hp] at hT
        repeat (first|refine aJ ?_|refine aS ?_|refine af ?_|refine ay ?_|refine bC ?_|refine ak ?_|refine ax ?_|refine au ?_|refine ae ?_|refine aA ?_|refine aH ?_|refine aF ?_|refine bz ?_|refine dn ?_|refine bU dN ?_)
        refine dG bu bu (fun _ _ _=>False) ?_
        repeat (first|refine ah ?_|refine cu ?_|refine aS ?_|refine af ?_|refine aN ?_|refine bf ?_|refine ax ?_|refine ae ?_|refine dH ?_|refine aH ?_|refine bI ?_|refine aF ?_)
        exact bZ [1,5,6,9,12,90,91,92] (k+1) hkl (by omega) (by simp only [hT,Option.toList_none,List.append_nil];rfl)
     ·obtain rfl:k=R.length:=by omega
      rw [List.take_length]
      have hTl:(td'++R.filterMap (iR w (v1,v2))).length<=td'.length+R.length:=by
       have:=List.length_filterMap_le (iR w (v1,v2)) R
       rw [List.length_append];omega
      generalize (td'++R.filterMap (iR w (v1,v2)))=T at hst hTl
      repeat (first|refine af ?_|refine ay ?_|refine bD (by rfl) ?_|refine ax ?_|refine au ?_|refine ae ?_|refine dH ?_)
      exact bZ [1,5,6,9] (G++[(v1,v2)],T) ⟨hst,by simp only [hgl,Nat.add_mul,Nat.one_mul];omega⟩ (by
       simp only [hgl]
       have:fin.length*(w.length+1) - G.length=(fin.length*(w.length+1) - (G.length+1))+1:=by omega
       rw [this,Nat.add_mul _ 1];omega) rfl
end Go.Proofs.Ytlbdmpjnmfmnfaa
