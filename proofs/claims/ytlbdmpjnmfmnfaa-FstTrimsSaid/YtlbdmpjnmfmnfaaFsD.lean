import Derived.Test.YtlbdmpjnmfmnfaaFsC
import Derived.Test.YtlbdmpjnmfmnfaaFsW
import Derived.Test.YtlbdmpjnmfmnfaaFsN
set_option linter.unusedSimpArgs false
set_option linter.unusedVariables false
namespace Go.Proofs.Ytlbdmpjnmfmnfaa
open Go.RowKit Go.HL Go.FS
theorem Vt {fin:List Bool} {al:List A} (h:okF fin al=true):∀a∈al,0<=a.f/\a.f<fin.length:=fun a ha=>⟨(eU h ha).1,(eU h ha).2.1⟩
theorem Gw (ll:List (List A)) {n:Nat} (h:ll.length=n):stripL (win (fP ll) 0 (n*1))=fD ll:=by
 rw [<- lu,win,if_pos ⟨rfl,by rw [qM];omega⟩]
theorem J3 (l:List Nd) (v:Nd):(su (l++[v])).take (l.length*2)=su l:=by
 rw [show su (l++[v])=su l++pC v by simp [recs],List.take_left' (Gj l)]
theorem I9 {w:List Int} {y:Nd} {R:List A} {k:Nat} (td:List Nd) (h:k<R.length):td++(R.take (k+1)).filterMap (jR w y)=(td++(R.take k).filterMap (jR w y))++(jR w y (R.getD k default)).toList:=by
 rw [dA h,List.filterMap_append,List.append_assoc]
 generalize R.getD k default=a
 cases hp:jR w y a<;>simp [hp]
theorem GN {α:Type} (l:List α) (v d:α) {i:Nat} (h:i=l.length):(l++[v]).getD i d=v:=by subst h;simp
def Q4 (w:List Int) (ll:List (List A)) (G:List Nd):HV:=.optr [.sl w.length (HL.ints w),.osl 1 ll.length (fP ll),.omap ⟨.ints 2,none⟩ (G.map pk) (lg G.length)]
set_option maxHeartbeats 8000000 in
theorem KP (fin:List Bool) (al:List A) (w:List Int) (hv:okF fin al=true) (hw:w.length<=1024):HT Try.prog 54 [.agg (fA fin al),.sl w.length (HL.ints w)] (fun r=>∃G,r=Q4 w (bM (·.f) fin.length al) G/\G.Nodup/\∀x,x∈G <-> FS.Good fin al w x):=by
 obtain ⟨h1,h2,h3⟩:=jf hv
 refine HT.of rfl aau (Nat.le_of_ble_eq_true rfl) ?_
 unfold c54
 simp only [aW,Nat.reduceAdd,fA,iw]
 repeat (first|refine ah ?_|refine af ?_|refine au ?_|refine ae ?_|refine fZ ?_|refine dD ?_)
 refine dG bK dh (F7 fin al hv) ?_
 rintro _ rfl
 refine ⟨bP,_,_,_,_,_,gU,(by decide),bJ,?_⟩
 have hfl:=iL (·.f) fin.length al
 generalize hLF:bM (·.f) fin.length al=LF at hfl
 repeat (first|refine ug dS ?_|refine bZ ?_)
 refine Oa dS aJ aK jy kK (by rfl) (by simp only [oV,List.cons_append,List.nil_append,List.append_nil,List.map_cons,List.map_nil,if_true,if_false,reduceIte];try rfl) ?_
 repeat (first|refine ah ?_|refine aU ?_|refine af ?_|refine aI ?_|refine au ?_|refine ae ?_|refine aA ?_|refine aB ?_|refine nI dS (by rfl) (by omega) aK aK ?_)
 rw [<- xk (·.t)]
 refine bW [1,2,5,6,26,27,28] (fun k:Nat=>k<=al.length)
  (fun k=>⟨[(1,.sl w.length (HL.ints w)),(2,.pref 0 [] 0),(5,.pref 1 [] 0),(6,.ref 2 [] 1 0 fin.length),(26,.sl al.length (recs aC al)),(27,.int .i64 al.length),(28,.int .i64 k)],[(0,.optr [.sl fin.length (HL.bools fin),.sl al.length (recs aC al)]),(1,.optr [.sl w.length (HL.ints w),.osl 1 fin.length (fP LF),.omap ⟨.ints 2,none⟩ [] []]),(2,.osl 1 fin.length (fP (bM (·.t) fin.length (al.take k))))],3⟩)
  (fun k=>al.length - k) 0 (by omega) rfl ?_
 intro k hk
 by_cases hkl:k<al.length
 ·have ha:=eU hv (iY hkl)
  have hlen:=iL (·.t) fin.length (al.take k)
  have hrow:((bM (·.t) fin.length (al.take k)).getD (al.getD k default).t.toNat []).length<=8192:=Nat.le_trans xw (by simp;omega)
  have hst:=uY (p:=(·.t)) (n:=fin.length) (l:=al.take k) (a:=al.getD k default) (j:=(al.getD k default).t.toNat) (by omega)
  rw [<- dA hkl] at hst
  have hro:=yM (bM (·.t) fin.length (al.take k)) (al.getD k default).t.toNat ((bM (·.t) fin.length (al.take k)).getD (al.getD k default).t.toNat []++[al.getD k default]) .dead (n:=((bM (·.t) fin.length (al.take k)).getD (al.getD k default).t.toNat []).length+1) (by simp)
  rw [hst] at hro
  repeat (first|refine aO ?_|refine af ?_|refine az ?_|refine ak ?_|refine au ?_|refine ae ?_|refine aA ?_|refine aF ?_|refine aZ ?_|refine cZ ?_|refine bG dS ?_)
  refine bg 51 [1,2,5,6,8,26,27,28] ⟨[(1,.sl w.length (HL.ints w)),(2,.pref 0 [] 0),(5,.pref 1 [] 0),(6,.ref 2 [] 1 0 fin.length),(8,.ptr (aC (al.getD k default)) 0),(26,.sl al.length (recs aC al)),(27,.int .i64 al.length),(28,.int .i64 k)],[(0,.optr [.sl fin.length (HL.bools fin),.sl al.length (recs aC al)]),(1,.optr [.sl w.length (HL.ints w),.osl 1 fin.length (fP LF),.omap ⟨.ints 2,none⟩ [] []]),(2,.osl 1 fin.length (fP (bM (·.t) fin.length (al.take k))))],3⟩ rfl ?_
  unfold O3
  refine ji [8] [6] aY aY (fun _ _ _=>False) (by simp [aT,HV.deep,bz,aC]) (by simp [aT,HV.deep,bz]) ?_
  simp only [aC]
  repeat (first|refine ah ?_|refine dC ?_|refine eG (by rfl) aG (by (try simp (disch:=omega) only [go_sem,hro]);try rfl) ?_|refine dU (by rfl) bn (by (try simp (disch:=omega) only [go_sem,reduceIte,Nat.reduceEqDiff,Nat.reduceAdd,Nat.reduceMul,hro]);try rfl) aG (by (try simp (disch:=omega) only [go_sem,hro]);try rfl) aJ ?_|refine af ?_|refine gI (by rfl) (by rfl) (by (try simp (disch:=omega) only [go_sem,Int.reduceAdd,Int.reduceSub,Int.reduceMul,hro]);try rfl) ?_|refine ae ?_|refine dL ?_|refine aX ?_|refine iq (by rfl) aG (by (try simp (disch:=omega) only [go_sem,reduceIte,Nat.reduceEqDiff,Nat.reduceAdd,Nat.reduceMul,hro]);try rfl) ?_|refine kF (by rfl) aJ aK jy kK (by rfl) kP (by rfl) kN (by (try simp (disch:=omega) only [go_sem,reduceIte,Nat.reduceEqDiff,Nat.reduceAdd,Nat.reduceMul,hro]);try rfl) aG (by (try simp (disch:=omega) only [go_sem,hro]);try rfl) aK jc ?_|refine bU ?_|refine kT dS (by rfl) aJ rD (by (try simp (disch:=omega) only [go_sem,reduceIte,Nat.reduceEqDiff,Nat.reduceAdd,Nat.reduceMul,hro]);try omega) bn (by (try simp (disch:=omega) only [go_sem,reduceIte,Nat.reduceEqDiff,Nat.reduceAdd,Nat.reduceMul,hro]);try rfl) dS (by omega) iH aG (by (try simp (disch:=omega) only [go_sem,reduceIte,Nat.reduceEqDiff,Nat.reduceAdd,Nat.reduceMul,hro]);try rfl) aK ?_)
  exact dm [1,2,5,6,26,27,28] (k+1) hkl (by omega) rfl
 ·obtain rfl:k=al.length:=by omega
  rw [List.take_length]
  repeat (first|refine aU ?_|refine af ?_|refine az ?_|refine bQ (by rfl) ?_|refine ax ?_|refine au ?_|refine ae ?_|refine bT ?_|refine aB ?_)
  refine dG bK dh (yF fin (by omega)) ?_
  rintro _ rfl
  refine ⟨bP,_,_,_,_,_,gU,(by decide),bJ,?_⟩
  have hfin:=xB fin fin.length
  have hmf:=fun p=>mem_finL (fin:=fin) (p:=p)
  generalize hFL:oM fin fin.length=fl at hfin hmf
  have htl:=iL (·.t) fin.length al
  have hrt:∀i:Nat,i<fin.length->(bM (·.t) fin.length al).getD i []=al.filter fun a=>a.t==(i:Int):=fun i hi=>kR _ _ hi
  generalize hLT:bM (·.t) fin.length al=LT at htl hrt
  repeat (first|refine ah ?_|refine af ?_|refine dY (by rfl) ?_|refine aA ?_)
  refine bg 2 [1,5,6,9,47,48,49] ⟨[(1,.sl w.length (HL.ints w)),(5,.pref 0 [] 0),(6,.sl fin.length (fD LT)),(9,.ref 1 [] 2 0 0),(47,.ref 2 [] 1 0 fl.length),(48,.int .i64 fl.length),(49,.int .i64 0)],[(0,.optr [.sl w.length (HL.ints w),.osl 1 fin.length (fP LF),.omap ⟨.ints 2,none⟩ [] []]),(1,.osl 2 0 []),(2,.osl 1 fl.length (HL.ints fl))],3⟩ (by rw [<- Gw LT htl];rfl) ?_
  refine bW [1,5,6,9,47,48,49] (fun k:Nat=>k<=fl.length)
   (fun k=>⟨[(1,.sl w.length (HL.ints w)),(5,.pref 0 [] 0),(6,.sl fin.length (fD LT)),(9,.ref 1 [] 2 0 k),(47,.ref 2 [] 1 0 fl.length),(48,.int .i64 fl.length),(49,.int .i64 k)],[(0,.optr [.sl w.length (HL.ints w),.osl 1 fin.length (fP LF),.omap ⟨.ints 2,none⟩ [] []]),(1,.osl 2 k (su ((fl.take k).map fun p=>(p,(w.length:Int))))),(2,.osl 1 fl.length (HL.ints fl))],3⟩)
   (fun k=>fl.length - k) 0 (by omega) rfl ?_
  intro k hk
  by_cases hkl:k<fl.length
  ·have htk:=dA hkl
   have hpl:((fl.take k).map fun p=>(p,(w.length:Int))).length=k:=by simp;omega
   have hps2:((fl.take k).map fun p=>(p,(w.length:Int)))++[(fl.getD k 0,(w.length:Int))]=(fl.take (k+1)).map fun p=>(p,(w.length:Int)):=by rw [htk,List.map_append];rfl
   generalize (fl.take k).map (fun p=>(p,(w.length:Int)))=tk at hpl hps2
   repeat (first|refine ah ?_|refine dC ?_|refine aU ?_|refine af ?_|refine az ?_|refine bY ?_|refine aI ?_|refine ak ?_|refine au ?_|refine ae ?_|refine aA ?_|refine dL ?_|refine aF ?_|refine bU ?_|refine gG ?_|refine bZ ?_)
   exact dm [1,5,6,9,47,48,49] (k+1) hkl (by omega) (by rw [<- hps2];rfl)
  ·obtain rfl:k=fl.length:=by omega
   rw [List.take_length]
   have hs:=SI.start (al:=al) (w:=w) hmf
   have hpl:(fl.map fun p=>(p,(w.length:Int))).length=fl.length:=by simp
   generalize fl.map (fun p=>(p,(w.length:Int)))=td0 at hs hpl
   rw [<- hpl]
   repeat (first|refine af ?_|refine az ?_|refine bQ (by rfl) ?_|refine ax ?_|refine au ?_|refine ae ?_|refine aA ?_)
   refine bW [1,5,6,9] (fun s:List Nd×List Nd=>SI fin al w s.1 s.2/\s.2.length<=fl.length+s.1.length*al.length)
    (fun s=>⟨[(1,.sl w.length (HL.ints w)),(5,.pref 0 [] 0),(6,.sl fin.length (fD LT)),(9,.ref 1 [] 2 0 s.2.length)],[(0,.optr [.sl w.length (HL.ints w),.osl 1 fin.length (fP LF),.omap ⟨.ints 2,none⟩ (s.1.map pk) (lg s.1.length)]),(1,.osl 2 s.2.length (su s.2))],2⟩)
    (fun s=>(fin.length*(w.length+1) - s.1.length)*(al.length+1)+s.2.length) ([],td0) ⟨hs,by simp;omega⟩ rfl ?_
   rintro ⟨G,td⟩ ⟨hsi,htd⟩
   simp only at hsi htd ⊢
   have hcard:=rV hsi.nodup fun x hx=>(hsi.good x (by simp [hx])).2
   have hb1:fin.length*(w.length+1)<=2048*1025:=Nat.mul_le_mul h2 (by omega)
   have hb2:G.length*al.length<=2048*1025*8192:=Nat.mul_le_mul (by omega) h3
   rcases List.eq_nil_or_concat td with rfl|⟨td',v,rfl⟩
   ·repeat (first|refine ah ?_|refine af ?_|refine dY (by rfl) ?_|refine bQ (by rfl) ?_|refine ax ?_|refine au ?_|refine ae ?_|refine bV ?_)
    refine ay ?_
    exact ⟨G,by rw [Q4,hfl];rfl,hsi.nodup,hsi.done⟩
   ·rw [List.concat_eq_append] at hsi htd ⊢
    have hsn:(td'++[v]).length=td'.length+1:=by simp
    have hv1:=(hsi.good v (by simp)).2
    have hgv:(td'++[v]).getD td'.length default=v:=GN _ _ _ rfl
    have hz:(((td'.length+1:Nat):Int) - 1).toNat=td'.length:=by omega
    rw [hsn] at htd ⊢
    repeat (first|refine ah ?_|refine dC ?_|refine af ?_|refine dY (by rfl) ?_|refine ak ?_|refine au ?_|refine ae ?_|refine aA ?_|refine aF ?_|refine AU (by rfl) (by rfl) (by (try simp (disch:=omega) only [go_sem,Int.reduceAdd,Int.reduceSub,Int.reduceMul,hz,hgv]);try rfl) ?_|refine bV ?_|refine jo (by rfl) bn aK aG (by decide) (by (try simp (disch:=omega) only [go_sem,reduceIte,Nat.reduceEqDiff,Nat.reduceAdd,Nat.reduceMul,hz,hgv]);try rfl) gy ?_|refine l9 (by rfl) aJ aK gy (by rfl) (by decide) bn aK aG (by (try simp (disch:=omega) only [go_sem,hz,hgv]);try rfl) aK ?_|refine LW (by rfl) (by rfl) (by rfl) (by omega) aK dS ?_|refine bG dS ?_)
    refine xm 9 [1,5,6,9,12] ⟨[(1,.sl w.length (HL.ints w)),(5,.pref 0 [] 0),(6,.sl fin.length (fD LT)),(9,.ref 1 [] 2 0 td'.length),(12,.pref 2 [] 0)],[(0,.optr [.sl w.length (HL.ints w),.osl 1 fin.length (fP LF),.omap ⟨.ints 2,none⟩ (G.map pk) (lg G.length)]),(1,.osl 2 td'.length (su td')),(2,.optr [.int .i64 v.1,.int .i64 v.2])],3⟩ rfl rfl (by omega) (Bg _) (by decide) (by rw [hz,J3];rfl) ?_
    obtain ⟨v1,v2⟩:=v
    by_cases hG:(v1,v2)∈G
    ·have hd:decide ((v1,v2)∈G)=true:=decide_eq_true hG
     refine dV aY aY (fun _ _ _=>False) ?_
     repeat (first|refine ah ?_|refine dU (by rfl) bn (by (try simp (disch:=omega) only [go_sem,reduceIte,Nat.reduceEqDiff,Nat.reduceAdd,Nat.reduceMul,hd]);try rfl) aG (by (try simp (disch:=omega) only [go_sem,hd]);try rfl) aJ ?_|refine af ?_|refine bQ (by rfl) ?_|refine ak ?_|refine aB ?_|refine jo (by rfl) bn aK aG (by decide) (by (try simp (disch:=omega) only [go_sem,reduceIte,Nat.reduceEqDiff,Nat.reduceAdd,Nat.reduceMul,hd]);try rfl) gy ?_|refine qF (by rfl) (by rfl) (by exact eY rfl) aJ ⟨rfl,rfl⟩ (by (try simp (disch:=omega) only [go_sem,reduceIte,Nat.reduceEqDiff,Nat.reduceAdd,Nat.reduceMul,hd]);try rfl) (by rfl) ?_|refine iC aJ rfl ?_)
     exact dm [1,5,6,9] (G,td') ⟨hsi.skip hG,by simp only;omega⟩ iP rfl
    ·have hd:decide ((v1,v2)∈G)=false:=decide_eq_false hG
     have hins:ins (v1,v2) G=G++[(v1,v2)]:=by unfold ins;rw [if_neg hG]
     have hgl:(G++[(v1,v2)]).length=G.length+1:=by simp
     have hst:=hsi.step (fun a ha=>Vt hv a ha) hG
     have hcard':=rV hst.nodup fun x hx=>(hst.good x (by simp only [List.mem_append] at hx ⊢;exact .inl hx)).2
     rw [hgl] at hcard'
     obtain ⟨g1,g2,g3,g4⟩:=hv1
     simp only at g1 g2 g3 g4
     have hrow:=hrt v1.toNat (by omega)
     rw [show ((v1.toNat:Nat):Int)=v1 by omega] at hrow
     have hrl:(LT.getD v1.toNat []).length<=al.length:=by rw [hrow];exact List.length_filter_le _ _
     have hrm:∀k,k<(LT.getD v1.toNat []).length->(LT.getD v1.toNat []).getD k default∈al:=fun k hk=>by
      have:=iY hk
      rw [hrow] at this ⊢
      exact (List.mem_filter.1 this).1
     rw [<- hrow] at hst
     generalize hR:LT.getD v1.toNat []=R at hrl hrm hst
     refine dV aY aY (fun _ _ _=>False) ?_
     repeat (first|refine ah ?_|refine dU (by rfl) bn (by (try simp (disch:=omega) only [go_sem,reduceIte,Nat.reduceEqDiff,Nat.reduceAdd,Nat.reduceMul,hd]);try rfl) aG (by (try simp (disch:=omega) only [go_sem,hd]);try rfl) aJ ?_|refine af ?_|refine ax ?_|refine au ?_|refine aF ?_|refine aB ?_|refine jo (by rfl) bn aK aG (by decide) (by (try simp (disch:=omega) only [go_sem,reduceIte,Nat.reduceEqDiff,Nat.reduceAdd,Nat.reduceMul,hd]);try rfl) gy ?_|refine qF (by rfl) (by rfl) (by exact eY rfl) aJ ⟨rfl,rfl⟩ (by (try simp (disch:=omega) only [go_sem,reduceIte,Nat.reduceEqDiff,Nat.reduceAdd,Nat.reduceMul,hd]);try rfl) (by rfl) ?_|refine iC aJ rfl ?_)
     refine dV aY aY (fun _ _ _=>False) ?_
     repeat (first|refine ah ?_|refine aO ?_|refine eG (by rfl) aG (by (try simp (disch:=omega) only [go_sem,hins,hR]);try rfl) ?_|refine dU (by rfl) bn (by (try simp (disch:=omega) only [go_sem,reduceIte,Nat.reduceEqDiff,Nat.reduceAdd,Nat.reduceMul,hins,hR]);try rfl) aG (by (try simp (disch:=omega) only [go_sem,hins,hR]);try rfl) aJ ?_|refine af ?_|refine aI ?_|refine au ?_|refine ae ?_|refine aA ?_|refine aB ?_|refine jo (by rfl) bn aK aG (by decide) (by (try simp (disch:=omega) only [go_sem,reduceIte,Nat.reduceEqDiff,Nat.reduceAdd,Nat.reduceMul,hins,hR]);try rfl) gy ?_|refine pW (by rfl) aJ aJ lN (by trivial) lN (by exact eY rfl) ⟨rfl,rfl⟩ (by (try simp (disch:=omega) only [go_sem,reduceIte,Nat.reduceEqDiff,Nat.reduceAdd,Nat.reduceMul,hins,hR]);try rfl) aK jc ?_|refine iC aJ rfl ?_)
     refine bW [1,5,6,9,12,90,91,92] (fun k:Nat=>k<=R.length)
      (fun k=>⟨[(1,.sl w.length (HL.ints w)),(5,.pref 0 [] 0),(6,.sl fin.length (fD LT)),(9,.ref 1 [] 2 0 (td'++(R.take k).filterMap (jR w (v1,v2))).length),(12,.pref 2 [] 0),(90,.sl R.length (recs aC R)),(91,.int .i64 R.length),(92,.int .i64 k)],[(0,.optr [.sl w.length (HL.ints w),.osl 1 fin.length (fP LF),.omap ⟨.ints 2,none⟩ ((G++[(v1,v2)]).map pk) (lg (G++[(v1,v2)]).length)]),(1,.osl 2 (td'++(R.take k).filterMap (jR w (v1,v2))).length (su (td'++(R.take k).filterMap (jR w (v1,v2))))),(2,.optr [.int .i64 v1,.int .i64 v2])],3⟩)
      (fun k=>R.length - k) 0 (by omega) (by simp only [List.take_zero,List.filterMap_nil,List.append_nil];rfl) ?_
     intro k hk
     by_cases hkl:k<R.length
     ·have ha:=eU hv (hrm k hkl)
      have hT:=I9 (w:=w) (y:=(v1,v2)) td' hkl
      have hTl:(td'++(R.take k).filterMap (jR w (v1,v2))).length<=td'.length+k:=by
       have:=List.length_filterMap_le (jR w (v1,v2)) (R.take k)
       rw [List.length_take] at this
       rw [List.length_append];omega
      generalize (td'++(R.take k).filterMap (jR w (v1,v2)))=T at hT hTl
      by_cases hi:(R.getD k default).i = -1
      ·have hp:jR w (v1,v2) (R.getD k default)=some ((R.getD k default).f,v2):=by simp only [jR,if_pos hi]
       have hTl2:(T++[((R.getD k default).f,v2)]).length=T.length+1:=by simp
       rw [hp] at hT
       repeat (first|refine ah ?_|refine aO ?_|refine aU ?_|refine af ?_|refine az ?_|refine dB ?_|refine bY ?_|refine ak ?_|refine au ?_|refine ae ?_|refine aA ?_|refine dL ?_|refine aF ?_|refine aB ?_|refine aZ ?_|refine cZ ?_|refine bU ?_|refine bG dS ?_|refine gG ?_|refine bZ ?_)
       exact dm [1,5,6,9,12,90,91,92] (k+1) hkl (by omega) (by simp only [hT,Option.toList_some,hTl2];rfl)
      ·by_cases h0:0<v2
       ·by_cases he:w.getD (v2 - 1).toNat 0=(R.getD k default).i
        ·have hp:jR w (v1,v2) (R.getD k default)=some ((R.getD k default).f,v2 - 1):=by simp only [jR,if_neg hi];exact if_pos ⟨h0,he⟩
         have hTl2:(T++[((R.getD k default).f,v2 - 1)]).length=T.length+1:=by simp
         rw [hp] at hT
         repeat (first|refine aO ?_|refine aU ?_|refine af ?_|refine az ?_|refine dB ?_|refine ak ?_|refine ax ?_|refine au ?_|refine ae ?_|refine aA ?_|refine aF ?_|refine aB ?_|refine aZ ?_|refine cZ ?_|refine bG dS ?_)
         refine dV aY aY (fun _ _ _=>False) ?_
         repeat (first|refine ah ?_|refine aN ?_|refine aO ?_|refine di ?_|refine aU ?_|refine af ?_|refine dB ?_|refine aV ?_|refine bY ?_|refine ak ?_|refine ae ?_|refine dL ?_|refine AU (by rfl) (by rfl) JM ?_|refine bV ?_|refine aB ?_|refine bU ?_|refine gG ?_|refine bZ ?_)
         exact dm [1,5,6,9,12,90,91,92] (k+1) hkl (by omega) (by simp only [hT,Option.toList_some,hTl2];rfl)
        ·have hp:jR w (v1,v2) (R.getD k default)=none:=by simp only [jR,if_neg hi];exact if_neg fun h=>he h.2
         rw [hp] at hT
         repeat (first|refine aO ?_|refine aU ?_|refine af ?_|refine az ?_|refine dB ?_|refine ak ?_|refine ax ?_|refine au ?_|refine ae ?_|refine aA ?_|refine aF ?_|refine aB ?_|refine aZ ?_|refine cZ ?_|refine bG dS ?_)
         refine dV aY aY (fun _ _ _=>False) ?_
         repeat (first|refine ah ?_|refine aN ?_|refine aO ?_|refine di ?_|refine aU ?_|refine af ?_|refine dB ?_|refine aV ?_|refine bY ?_|refine ax ?_|refine ae ?_|refine dL ?_|refine aF ?_|refine AU (by rfl) (by rfl) JM ?_|refine bV ?_|refine aB ?_)
         exact dm [1,5,6,9,12,90,91,92] (k+1) hkl (by omega) (by simp only [hT,Option.toList_none,List.append_nil];rfl)
       ·have hp:jR w (v1,v2) (R.getD k default)=none:=by simp only [jR,if_neg hi];exact if_neg fun h=>h0 h.1
        rw [hp] at hT
        repeat (first|refine aO ?_|refine aU ?_|refine af ?_|refine az ?_|refine dB ?_|refine ak ?_|refine ax ?_|refine au ?_|refine ae ?_|refine aA ?_|refine aF ?_|refine aB ?_|refine aZ ?_|refine cZ ?_|refine bG dS ?_)
        refine dV aY aY (fun _ _ _=>False) ?_
        repeat (first|refine ah ?_|refine dn ?_|refine aU ?_|refine af ?_|refine aP ?_|refine bY ?_|refine ax ?_|refine ae ?_|refine dL ?_|refine aF ?_|refine bV ?_|refine aB ?_)
        exact dm [1,5,6,9,12,90,91,92] (k+1) hkl (by omega) (by simp only [hT,Option.toList_none,List.append_nil];rfl)
     ·obtain rfl:k=R.length:=by omega
      rw [List.take_length]
      have hTl:(td'++R.filterMap (jR w (v1,v2))).length<=td'.length+R.length:=by
       have:=List.length_filterMap_le (jR w (v1,v2)) R
       rw [List.length_append];omega
      generalize (td'++R.filterMap (jR w (v1,v2)))=T at hst hTl
      repeat (first|refine af ?_|refine az ?_|refine bQ (by rfl) ?_|refine ax ?_|refine au ?_|refine ae ?_|refine dL ?_)
      exact dm [1,5,6,9] (G++[(v1,v2)],T) ⟨hst,by simp only [hgl,Nat.add_mul,Nat.one_mul];omega⟩ (by
       simp only [hgl]
       have:fin.length*(w.length+1) - G.length=(fin.length*(w.length+1) - (G.length+1))+1:=by omega
       rw [this,Nat.add_mul _ 1];omega) rfl
end Go.Proofs.Ytlbdmpjnmfmnfaa
