import Derived.Test.YtlbdmpjnmfmnfaaFsC
import Derived.Test.YtlbdmpjnmfmnfaaFsW
import Derived.Test.YtlbdmpjnmfmnfaaFsV
set_option linter.unusedSimpArgs false
set_option linter.unusedVariables false
namespace Go.Proofs.Ytlbdmpjnmfmnfaa
open Go.RowKit Go.HL Go.FS
theorem ab9 {fin:List Bool} {al:List A} (h:okF fin al=true):∀a∈al,0<=a.f/\a.f<fin.length:=fun a ha=>⟨(dh h ha).1,(dh h ha).2.1⟩
theorem L9 (ll:List (List A)) {n:Nat} (h:ll.length=n):stripL (win (gp ll) 0 (n*1))=fO ll:=by
 rw [<- lZ,win,if_pos ⟨rfl,by rw [sV];omega⟩]
theorem PE (l:List Nd) (v:Nd):(uV (l++[v])).take (l.length*2)=uV l:=by
 rw [show uV (l++[v])=uV l++pC v by simp [recs],List.take_left' (IM l)]
theorem Pi {w:List Int} {y:Nd} {R:List A} {k:Nat} (td:List Nd) (h:k<R.length):td++(R.take (k+1)).filterMap (kL w y)=(td++(R.take k).filterMap (kL w y))++(kL w y (R.getD k default)).toList:=by
 rw [dw h,List.filterMap_append,List.append_assoc]
 generalize R.getD k default=a
 cases hp:kL w y a<;>simp [hp]
theorem LW {α:Type} (l:List α) (v d:α) {i:Nat} (h:i=l.length):(l++[v]).getD i d=v:=by subst h;simp
def VM (w:List Int) (ll:List (List A)) (G:List Nd):HV:=.optr [.sl w.length (HL.ints w),.osl 1 ll.length (gp ll),.omap ⟨.ints 2,none⟩ (G.map pk) (lX G.length)]
set_option maxHeartbeats 8000000 in
theorem Ql (fin:List Bool) (al:List A) (w:List Int) (hv:okF fin al=true) (hw:w.length<=1024):HT Try.prog 54 [.agg (iC fin al),.sl w.length (HL.ints w)] (fun r=>∃G,r=VM w (bT (·.f) fin.length al) G/\G.Nodup/\∀x,x∈G <-> FS.Good fin al w x):=by
 obtain ⟨h1,h2,h3⟩:=dR hv
 refine HT.of rfl adO (Nat.le_of_ble_eq_true rfl) ?_
 unfold c54
 simp only [aY,Nat.reduceAdd,iC,jX]
 repeat (first|refine ah ?_|refine af ?_|refine ak ?_|refine ae ?_|refine fJ ?_|refine dU ?_)
 refine bY bz bW (JJ fin al hv) ?_
 rintro _ rfl
 refine ⟨bG,_,_,_,_,_,fU,(by decide),bu,?_⟩
 have hfl:=iY (·.f) fin.length al
 generalize hLF:bT (·.f) fin.length al=LF at hfl
 repeat (first|refine vJ eH ?_|refine di ?_)
 refine TN eH aV aP jG mD (by rfl) (by simp only [nU,List.cons_append,List.nil_append,List.append_nil,List.map_cons,List.map_nil,if_true,if_false,reduceIte];try rfl) ?_
 repeat (first|refine ah ?_|refine aZ ?_|refine af ?_|refine aQ ?_|refine ak ?_|refine ae ?_|refine aB ?_|refine aI ?_|refine qU eH (by rfl) (by omega) aP aP ?_)
 rw [<- yE (·.t)]
 refine cu [1,2,5,6,26,27,28] (fun k:Nat=>k<=al.length)
  (fun k=>⟨[(1,.sl w.length (HL.ints w)),(2,.pref 0 [] 0),(5,.pref 1 [] 0),(6,.ref 2 [] 1 0 fin.length),(26,.sl al.length (recs aC al)),(27,.int .i64 al.length),(28,.int .i64 k)],[(0,.optr [.sl fin.length (HL.bools fin),.sl al.length (recs aC al)]),(1,.optr [.sl w.length (HL.ints w),.osl 1 fin.length (gp LF),.omap ⟨.ints 2,none⟩ [] []]),(2,.osl 1 fin.length (gp (bT (·.t) fin.length (al.take k))))],3⟩)
  (fun k=>al.length - k) 0 (by omega) rfl ?_
 intro k hk
 by_cases hkl:k<al.length
 ·have ha:=dh hv (lC hkl)
  have hlen:=iY (·.t) fin.length (al.take k)
  have hrow:((bT (·.t) fin.length (al.take k)).getD (al.getD k default).t.toNat []).length<=8192:=Nat.le_trans zN (by simp;omega)
  have hst:=xG (p:=(·.t)) (n:=fin.length) (l:=al.take k) (a:=al.getD k default) (j:=(al.getD k default).t.toNat) (by omega)
  rw [<- dw hkl] at hst
  have hro:=Bz (bT (·.t) fin.length (al.take k)) (al.getD k default).t.toNat ((bT (·.t) fin.length (al.take k)).getD (al.getD k default).t.toNat []++[al.getD k default]) .dead (n:=((bT (·.t) fin.length (al.take k)).getD (al.getD k default).t.toNat []).length+1) (by simp)
  rw [hst] at hro
  repeat (first|refine aU ?_|refine af ?_|refine az ?_|refine ax ?_|refine ak ?_|refine ae ?_|refine aB ?_|refine aF ?_|refine bn ?_|refine dK ?_|refine bP eH ?_)
  refine bg 51 [1,2,5,6,8,26,27,28] ⟨[(1,.sl w.length (HL.ints w)),(2,.pref 0 [] 0),(5,.pref 1 [] 0),(6,.ref 2 [] 1 0 fin.length),(8,.ptr (aC (al.getD k default)) 0),(26,.sl al.length (recs aC al)),(27,.int .i64 al.length),(28,.int .i64 k)],[(0,.optr [.sl fin.length (HL.bools fin),.sl al.length (recs aC al)]),(1,.optr [.sl w.length (HL.ints w),.osl 1 fin.length (gp LF),.omap ⟨.ints 2,none⟩ [] []]),(2,.osl 1 fin.length (gp (bT (·.t) fin.length (al.take k))))],3⟩ rfl ?_
  unfold Uu
  refine jP [8] [6] aT aT (fun _ _ _=>False) (by simp [aG,HV.deep,bF,aC]) (by simp [aG,HV.deep,bF]) ?_
  simp only [aC]
  repeat (first|refine ah ?_|refine gG ?_|refine jb (by rfl) aW (by (try simp (disch:=omega) only [go_sem,hro]);try rfl) ?_|refine gJ (by rfl) bV (by (try simp (disch:=omega) only [go_sem,reduceIte,Nat.reduceEqDiff,Nat.reduceAdd,Nat.reduceMul,hro]);try rfl) aW (by (try simp (disch:=omega) only [go_sem,hro]);try rfl) aV ?_|refine af ?_|refine jL (by rfl) (by rfl) (by (try simp (disch:=omega) only [go_sem,Int.reduceAdd,Int.reduceSub,Int.reduceMul,hro]);try rfl) ?_|refine ae ?_|refine fK ?_|refine dE ?_|refine qp (by rfl) aW (by (try simp (disch:=omega) only [go_sem,reduceIte,Nat.reduceEqDiff,Nat.reduceAdd,Nat.reduceMul,hro]);try rfl) ?_|refine lY (by rfl) aV aP jG mD (by rfl) mO (by rfl) mV (by (try simp (disch:=omega) only [go_sem,reduceIte,Nat.reduceEqDiff,Nat.reduceAdd,Nat.reduceMul,hro]);try rfl) aW (by (try simp (disch:=omega) only [go_sem,hro]);try rfl) aP jM ?_|refine bQ ?_|refine lD eH (by rfl) aV uS (by (try simp (disch:=omega) only [go_sem,reduceIte,Nat.reduceEqDiff,Nat.reduceAdd,Nat.reduceMul,hro]);try omega) bV (by (try simp (disch:=omega) only [go_sem,reduceIte,Nat.reduceEqDiff,Nat.reduceAdd,Nat.reduceMul,hro]);try rfl) eH (by omega) iU aW (by (try simp (disch:=omega) only [go_sem,reduceIte,Nat.reduceEqDiff,Nat.reduceAdd,Nat.reduceMul,hro]);try rfl) aP ?_)
  exact dB [1,2,5,6,26,27,28] (k+1) hkl (by omega) rfl
 ·obtain rfl:k=al.length:=by omega
  rw [List.take_length]
  repeat (first|refine aZ ?_|refine af ?_|refine az ?_|refine bK (by rfl) ?_|refine au ?_|refine ak ?_|refine ae ?_|refine bU ?_|refine aI ?_)
  refine bY bz bW (tV fin (by omega)) ?_
  rintro _ rfl
  refine ⟨bG,_,_,_,_,_,fU,(by decide),bu,?_⟩
  have hfin:=nO fin fin.length
  have hmf:=fun p=>mem_finL (fin:=fin) (p:=p)
  generalize hFL:jS fin fin.length=fl at hfin hmf
  have htl:=iY (·.t) fin.length al
  have hrt:∀i:Nat,i<fin.length->(bT (·.t) fin.length al).getD i []=al.filter fun a=>a.t==(i:Int):=fun i hi=>lu _ _ hi
  generalize hLT:bT (·.t) fin.length al=LT at htl hrt
  repeat (first|refine ah ?_|refine af ?_|refine fF (by rfl) ?_|refine aB ?_)
  refine bg 2 [1,5,6,9,47,48,49] ⟨[(1,.sl w.length (HL.ints w)),(5,.pref 0 [] 0),(6,.sl fin.length (fO LT)),(9,.ref 1 [] 2 0 0),(47,.ref 2 [] 1 0 fl.length),(48,.int .i64 fl.length),(49,.int .i64 0)],[(0,.optr [.sl w.length (HL.ints w),.osl 1 fin.length (gp LF),.omap ⟨.ints 2,none⟩ [] []]),(1,.osl 2 0 []),(2,.osl 1 fl.length (HL.ints fl))],3⟩ (by rw [<- L9 LT htl];rfl) ?_
  refine cu [1,5,6,9,47,48,49] (fun k:Nat=>k<=fl.length)
   (fun k=>⟨[(1,.sl w.length (HL.ints w)),(5,.pref 0 [] 0),(6,.sl fin.length (fO LT)),(9,.ref 1 [] 2 0 k),(47,.ref 2 [] 1 0 fl.length),(48,.int .i64 fl.length),(49,.int .i64 k)],[(0,.optr [.sl w.length (HL.ints w),.osl 1 fin.length (gp LF),.omap ⟨.ints 2,none⟩ [] []]),(1,.osl 2 k (uV ((fl.take k).map fun p=>(p,(w.length:Int))))),(2,.osl 1 fl.length (HL.ints fl))],3⟩)
   (fun k=>fl.length - k) 0 (by omega) rfl ?_
  intro k hk
  by_cases hkl:k<fl.length
  ·have htk:=dw hkl
   have hpl:((fl.take k).map fun p=>(p,(w.length:Int))).length=k:=by simp;omega
   have hps2:((fl.take k).map fun p=>(p,(w.length:Int)))++[(fl.getD k 0,(w.length:Int))]=(fl.take (k+1)).map fun p=>(p,(w.length:Int)):=by rw [htk,List.map_append];rfl
   generalize (fl.take k).map (fun p=>(p,(w.length:Int)))=tk at hpl hps2
   repeat (first|refine ah ?_|refine gG ?_|refine aZ ?_|refine af ?_|refine az ?_|refine bH ?_|refine aQ ?_|refine ax ?_|refine ak ?_|refine ae ?_|refine aB ?_|refine fK ?_|refine aF ?_|refine bQ ?_|refine gV ?_|refine di ?_)
   exact dB [1,5,6,9,47,48,49] (k+1) hkl (by omega) (by rw [<- hps2];rfl)
  ·obtain rfl:k=fl.length:=by omega
   rw [List.take_length]
   have hs:=SI.start (al:=al) (w:=w) hmf
   have hpl:(fl.map fun p=>(p,(w.length:Int))).length=fl.length:=by simp
   generalize fl.map (fun p=>(p,(w.length:Int)))=td0 at hs hpl
   rw [<- hpl]
   repeat (first|refine af ?_|refine az ?_|refine bK (by rfl) ?_|refine au ?_|refine ak ?_|refine ae ?_|refine aB ?_)
   refine cu [1,5,6,9] (fun s:List Nd×List Nd=>SI fin al w s.1 s.2/\s.2.length<=fl.length+s.1.length*al.length)
    (fun s=>⟨[(1,.sl w.length (HL.ints w)),(5,.pref 0 [] 0),(6,.sl fin.length (fO LT)),(9,.ref 1 [] 2 0 s.2.length)],[(0,.optr [.sl w.length (HL.ints w),.osl 1 fin.length (gp LF),.omap ⟨.ints 2,none⟩ (s.1.map pk) (lX s.1.length)]),(1,.osl 2 s.2.length (uV s.2))],2⟩)
    (fun s=>(fin.length*(w.length+1) - s.1.length)*(al.length+1)+s.2.length) ([],td0) ⟨hs,by simp;omega⟩ rfl ?_
   rintro ⟨G,td⟩ ⟨hsi,htd⟩
   simp only at hsi htd ⊢
   have hcard:=uu hsi.nodup fun x hx=>(hsi.good x (by simp [hx])).2
   have hb1:fin.length*(w.length+1)<=2048*1025:=Nat.mul_le_mul h2 (by omega)
   have hb2:G.length*al.length<=2048*1025*8192:=Nat.mul_le_mul (by omega) h3
   rcases List.eq_nil_or_concat td with rfl|⟨td',v,rfl⟩
   ·repeat (first|refine ah ?_|refine af ?_|refine fF (by rfl) ?_|refine bK (by rfl) ?_|refine au ?_|refine ak ?_|refine ae ?_|refine dm ?_)
    refine ay ?_
    exact ⟨G,by rw [VM,hfl];rfl,hsi.nodup,hsi.done⟩
   ·rw [List.concat_eq_append] at hsi htd ⊢
    have hsn:(td'++[v]).length=td'.length+1:=by simp
    have hv1:=(hsi.good v (by simp)).2
    have hgv:(td'++[v]).getD td'.length default=v:=LW _ _ _ rfl
    have hz:(((td'.length+1:Nat):Int) - 1).toNat=td'.length:=by omega
    rw [hsn] at htd ⊢
    repeat (first|refine ah ?_|refine gG ?_|refine af ?_|refine fF (by rfl) ?_|refine ax ?_|refine ak ?_|refine ae ?_|refine aB ?_|refine aF ?_|refine yh (by rfl) (by rfl) (by (try simp (disch:=omega) only [go_sem,Int.reduceAdd,Int.reduceSub,Int.reduceMul,hz,hgv]);try rfl) ?_|refine dm ?_|refine jF (by rfl) bV aP aW (by decide) (by (try simp (disch:=omega) only [go_sem,reduceIte,Nat.reduceEqDiff,Nat.reduceAdd,Nat.reduceMul,hz,hgv]);try rfl) ja ?_|refine uy (by rfl) aV aP ja (by rfl) (by decide) bV aP aW (by (try simp (disch:=omega) only [go_sem,hz,hgv]);try rfl) aP ?_|refine Ib (by rfl) (by rfl) (by rfl) (by omega) aP eH ?_|refine bP eH ?_)
    refine uB 9 [1,5,6,9,12] ⟨[(1,.sl w.length (HL.ints w)),(5,.pref 0 [] 0),(6,.sl fin.length (fO LT)),(9,.ref 1 [] 2 0 td'.length),(12,.pref 2 [] 0)],[(0,.optr [.sl w.length (HL.ints w),.osl 1 fin.length (gp LF),.omap ⟨.ints 2,none⟩ (G.map pk) (lX G.length)]),(1,.osl 2 td'.length (uV td')),(2,.optr [.int .i64 v.1,.int .i64 v.2])],3⟩ rfl rfl (by omega) (DR _) (by decide) (by rw [hz,PE];rfl) ?_
    obtain ⟨v1,v2⟩:=v
    by_cases hG:(v1,v2)∈G
    ·have hd:decide ((v1,v2)∈G)=true:=decide_eq_true hG
     refine gu aT aT (fun _ _ _=>False) ?_
     repeat (first|refine ah ?_|refine gJ (by rfl) bV (by (try simp (disch:=omega) only [go_sem,reduceIte,Nat.reduceEqDiff,Nat.reduceAdd,Nat.reduceMul,hd]);try rfl) aW (by (try simp (disch:=omega) only [go_sem,hd]);try rfl) aV ?_|refine af ?_|refine bK (by rfl) ?_|refine ax ?_|refine aI ?_|refine jF (by rfl) bV aP aW (by decide) (by (try simp (disch:=omega) only [go_sem,reduceIte,Nat.reduceEqDiff,Nat.reduceAdd,Nat.reduceMul,hd]);try rfl) ja ?_|refine qI (by rfl) (by rfl) (by exact eY rfl) aV ⟨rfl,rfl⟩ (by (try simp (disch:=omega) only [go_sem,reduceIte,Nat.reduceEqDiff,Nat.reduceAdd,Nat.reduceMul,hd]);try rfl) (by rfl) ?_|refine iE aV rfl ?_)
     exact dB [1,5,6,9] (G,td') ⟨hsi.skip hG,by simp only;omega⟩ jh rfl
    ·have hd:decide ((v1,v2)∈G)=false:=decide_eq_false hG
     have hins:ins (v1,v2) G=G++[(v1,v2)]:=by unfold ins;rw [if_neg hG]
     have hgl:(G++[(v1,v2)]).length=G.length+1:=by simp
     have hst:=hsi.step (fun a ha=>ab9 hv a ha) hG
     have hcard':=uu hst.nodup fun x hx=>(hst.good x (by simp only [List.mem_append] at hx ⊢;exact .inl hx)).2
     rw [hgl] at hcard'
     obtain ⟨g1,g2,g3,g4⟩:=hv1
     simp only at g1 g2 g3 g4
     have hrow:=hrt v1.toNat (by omega)
     rw [show ((v1.toNat:Nat):Int)=v1 by omega] at hrow
     have hrl:(LT.getD v1.toNat []).length<=al.length:=by rw [hrow];exact List.length_filter_le _ _
     have hrm:∀k,k<(LT.getD v1.toNat []).length->(LT.getD v1.toNat []).getD k default∈al:=fun k hk=>by
      have:=lC hk
      rw [hrow] at this ⊢
      exact (List.mem_filter.1 this).1
     rw [<- hrow] at hst
     generalize hR:LT.getD v1.toNat []=R at hrl hrm hst
     refine gu aT aT (fun _ _ _=>False) ?_
     repeat (first|refine ah ?_|refine gJ (by rfl) bV (by (try simp (disch:=omega) only [go_sem,reduceIte,Nat.reduceEqDiff,Nat.reduceAdd,Nat.reduceMul,hd]);try rfl) aW (by (try simp (disch:=omega) only [go_sem,hd]);try rfl) aV ?_|refine af ?_|refine au ?_|refine ak ?_|refine aF ?_|refine aI ?_|refine jF (by rfl) bV aP aW (by decide) (by (try simp (disch:=omega) only [go_sem,reduceIte,Nat.reduceEqDiff,Nat.reduceAdd,Nat.reduceMul,hd]);try rfl) ja ?_|refine qI (by rfl) (by rfl) (by exact eY rfl) aV ⟨rfl,rfl⟩ (by (try simp (disch:=omega) only [go_sem,reduceIte,Nat.reduceEqDiff,Nat.reduceAdd,Nat.reduceMul,hd]);try rfl) (by rfl) ?_|refine iE aV rfl ?_)
     refine gu aT aT (fun _ _ _=>False) ?_
     repeat (first|refine ah ?_|refine aU ?_|refine jb (by rfl) aW (by (try simp (disch:=omega) only [go_sem,hins,hR]);try rfl) ?_|refine gJ (by rfl) bV (by (try simp (disch:=omega) only [go_sem,reduceIte,Nat.reduceEqDiff,Nat.reduceAdd,Nat.reduceMul,hins,hR]);try rfl) aW (by (try simp (disch:=omega) only [go_sem,hins,hR]);try rfl) aV ?_|refine af ?_|refine aQ ?_|refine ak ?_|refine ae ?_|refine aB ?_|refine aI ?_|refine jF (by rfl) bV aP aW (by decide) (by (try simp (disch:=omega) only [go_sem,reduceIte,Nat.reduceEqDiff,Nat.reduceAdd,Nat.reduceMul,hins,hR]);try rfl) ja ?_|refine qR (by rfl) aV aV mJ (by trivial) mJ (by exact eY rfl) ⟨rfl,rfl⟩ (by (try simp (disch:=omega) only [go_sem,reduceIte,Nat.reduceEqDiff,Nat.reduceAdd,Nat.reduceMul,hins,hR]);try rfl) aP jM ?_|refine iE aV rfl ?_)
     refine cu [1,5,6,9,12,90,91,92] (fun k:Nat=>k<=R.length)
      (fun k=>⟨[(1,.sl w.length (HL.ints w)),(5,.pref 0 [] 0),(6,.sl fin.length (fO LT)),(9,.ref 1 [] 2 0 (td'++(R.take k).filterMap (kL w (v1,v2))).length),(12,.pref 2 [] 0),(90,.sl R.length (recs aC R)),(91,.int .i64 R.length),(92,.int .i64 k)],[(0,.optr [.sl w.length (HL.ints w),.osl 1 fin.length (gp LF),.omap ⟨.ints 2,none⟩ ((G++[(v1,v2)]).map pk) (lX (G++[(v1,v2)]).length)]),(1,.osl 2 (td'++(R.take k).filterMap (kL w (v1,v2))).length (uV (td'++(R.take k).filterMap (kL w (v1,v2))))),(2,.optr [.int .i64 v1,.int .i64 v2])],3⟩)
      (fun k=>R.length - k) 0 (by omega) (by simp only [List.take_zero,List.filterMap_nil,List.append_nil];rfl) ?_
     intro k hk
     by_cases hkl:k<R.length
     ·have ha:=dh hv (hrm k hkl)
      have hT:=Pi (w:=w) (y:=(v1,v2)) td' hkl
      have hTl:(td'++(R.take k).filterMap (kL w (v1,v2))).length<=td'.length+k:=by
       have:=List.length_filterMap_le (kL w (v1,v2)) (R.take k)
       rw [List.length_take] at this
       rw [List.length_append];omega
      generalize (td'++(R.take k).filterMap (kL w (v1,v2)))=T at hT hTl
      by_cases hi:(R.getD k default).i = -1
      ·have hp:kL w (v1,v2) (R.getD k default)=some ((R.getD k default).f,v2):=by simp only [kL,if_pos hi]
       have hTl2:(T++[((R.getD k default).f,v2)]).length=T.length+1:=by simp
       rw [hp] at hT
       repeat (first|refine ah ?_|refine aU ?_|refine aZ ?_|refine af ?_|refine az ?_|refine dX ?_|refine bH ?_|refine ax ?_|refine ak ?_|refine ae ?_|refine aB ?_|refine fK ?_|refine aF ?_|refine aI ?_|refine bn ?_|refine dK ?_|refine bQ ?_|refine bP eH ?_|refine gV ?_|refine di ?_)
       exact dB [1,5,6,9,12,90,91,92] (k+1) hkl (by omega) (by simp only [hT,Option.toList_some,hTl2];rfl)
      ·by_cases h0:0<v2
       ·by_cases he:w.getD (v2 - 1).toNat 0=(R.getD k default).i
        ·have hp:kL w (v1,v2) (R.getD k default)=some ((R.getD k default).f,v2 - 1):=by simp only [kL,if_neg hi];exact if_pos ⟨h0,he⟩
         have hTl2:(T++[((R.getD k default).f,v2 - 1)]).length=T.length+1:=by simp
         rw [hp] at hT
         repeat (first|refine aU ?_|refine aZ ?_|refine af ?_|refine az ?_|refine dX ?_|refine ax ?_|refine au ?_|refine ak ?_|refine ae ?_|refine aB ?_|refine aF ?_|refine aI ?_|refine bn ?_|refine dK ?_|refine bP eH ?_)
         refine gu aT aT (fun _ _ _=>False) ?_
         repeat (first|refine ah ?_|refine aK ?_|refine aU ?_|refine bZ ?_|refine aZ ?_|refine af ?_|refine dX ?_|refine aS ?_|refine bH ?_|refine ax ?_|refine ae ?_|refine fK ?_|refine yh (by rfl) (by rfl) MQ ?_|refine dm ?_|refine aI ?_|refine bQ ?_|refine gV ?_|refine di ?_)
         exact dB [1,5,6,9,12,90,91,92] (k+1) hkl (by omega) (by simp only [hT,Option.toList_some,hTl2];rfl)
        ·have hp:kL w (v1,v2) (R.getD k default)=none:=by simp only [kL,if_neg hi];exact if_neg fun h=>he h.2
         rw [hp] at hT
         repeat (first|refine aU ?_|refine aZ ?_|refine af ?_|refine az ?_|refine dX ?_|refine ax ?_|refine au ?_|refine ak ?_|refine ae ?_|refine aB ?_|refine aF ?_|refine aI ?_|refine bn ?_|refine dK ?_|refine bP eH ?_)
         refine gu aT aT (fun _ _ _=>False) ?_
         repeat (first|refine ah ?_|refine aK ?_|refine aU ?_|refine bZ ?_|refine aZ ?_|refine af ?_|refine dX ?_|refine aS ?_|refine bH ?_|refine au ?_|refine ae ?_|refine fK ?_|refine aF ?_|refine yh (by rfl) (by rfl) MQ ?_|refine dm ?_|refine aI ?_)
         exact dB [1,5,6,9,12,90,91,92] (k+1) hkl (by omega) (by simp only [hT,Option.toList_none,List.append_nil];rfl)
       ·have hp:kL w (v1,v2) (R.getD k default)=none:=by simp only [kL,if_neg hi];exact if_neg fun h=>h0 h.1
        rw [hp] at hT
        repeat (first|refine aU ?_|refine aZ ?_|refine af ?_|refine az ?_|refine dX ?_|refine ax ?_|refine au ?_|refine ak ?_|refine ae ?_|refine aB ?_|refine aF ?_|refine aI ?_|refine bn ?_|refine dK ?_|refine bP eH ?_)
        refine gu aT aT (fun _ _ _=>False) ?_
        repeat (first|refine ah ?_|refine dH ?_|refine aZ ?_|refine af ?_|refine aO ?_|refine bH ?_|refine au ?_|refine ae ?_|refine fK ?_|refine aF ?_|refine dm ?_|refine aI ?_)
        exact dB [1,5,6,9,12,90,91,92] (k+1) hkl (by omega) (by simp only [hT,Option.toList_none,List.append_nil];rfl)
     ·obtain rfl:k=R.length:=by omega
      rw [List.take_length]
      have hTl:(td'++R.filterMap (kL w (v1,v2))).length<=td'.length+R.length:=by
       have:=List.length_filterMap_le (kL w (v1,v2)) R
       rw [List.length_append];omega
      generalize (td'++R.filterMap (kL w (v1,v2)))=T at hst hTl
      repeat (first|refine af ?_|refine az ?_|refine bK (by rfl) ?_|refine au ?_|refine ak ?_|refine ae ?_|refine fK ?_)
      exact dB [1,5,6,9] (G++[(v1,v2)],T) ⟨hst,by simp only [hgl,Nat.add_mul,Nat.one_mul];omega⟩ (by
       simp only [hgl]
       have:fin.length*(w.length+1) - G.length=(fin.length*(w.length+1) - (G.length+1))+1:=by omega
       rw [this,Nat.add_mul _ 1];omega) rfl
end Go.Proofs.Ytlbdmpjnmfmnfaa
