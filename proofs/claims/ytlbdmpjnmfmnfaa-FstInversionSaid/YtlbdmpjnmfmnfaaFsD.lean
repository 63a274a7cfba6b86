import Derived.Test.YtlbdmpjnmfmnfaaFsC
import Derived.Test.YtlbdmpjnmfmnfaaFsS
import Derived.Test.YtlbdmpjnmfmnfaaFsO
set_option linter.unusedSimpArgs false
set_option linter.unusedVariables false
namespace Go.Proofs.Ytlbdmpjnmfmnfaa
open Go.RowKit Go.HL Go.FS
theorem UC {fin:List Bool} {al:List A} (h:okF fin al=true):∀a∈al,0<=a.f/\a.f<fin.length:=fun a ha=>⟨(gJ h ha).1,(gJ h ha).2.1⟩
theorem GK (ll:List (List A)) {n:Nat} (h:ll.length=n):stripL (win (eG ll) 0 (n*1))=dV ll:=by
 rw [<- kH,win,if_pos ⟨rfl,by rw [pX];omega⟩]
theorem IB (l:List Nd) (v:Nd):(qX (l++[v])).take (l.length*2)=qX l:=by
 rw [show qX (l++[v])=qX l++pC v by simp [recs],List.take_left' (En l)]
theorem Ku {w:List Int} {y:Nd} {R:List A} {k:Nat} (td:List Nd) (h:k<R.length):td++(R.take (k+1)).filterMap (jf w y)=(td++(R.take k).filterMap (jf w y))++(jf w y (R.getD k default)).toList:=by
 rw [dC h,List.filterMap_append,List.append_assoc]
 generalize R.getD k default=a
 cases hp:jf w y a<;>simp [hp]
theorem Fp {α:Type} (l:List α) (v d:α) {i:Nat} (h:i=l.length):(l++[v]).getD i d=v:=by subst h;simp
def PD (w:List Int) (ll:List (List A)) (G:List Nd):HV:=.optr [.sl w.length (HL.ints w),.osl 1 ll.length (eG ll),.omap ⟨.ints 2,none⟩ (G.map pk) (jU G.length)]
set_option maxHeartbeats 8000000 in
theorem IL (fin:List Bool) (al:List A) (w:List Int) (hv:okF fin al=true) (hw:w.length<=1024):HT Try.prog 54 [.agg (gQ fin al),.sl w.length (HL.ints w)] (fun r=>∃G,r=PD w (bz (·.f) fin.length al) G/\G.Nodup/\∀x,x∈G <-> FS.Good fin al w x):=by
 obtain ⟨h1,h2,h3⟩:=jZ hv
 refine HT.of rfl Xd (Nat.le_of_ble_eq_true rfl) ?_
 unfold XW
 simp only [aS,Nat.reduceAdd,gQ,jC]
 repeat (first|refine ag ?_|refine af ?_|refine ah ?_|refine ae ?_|refine gz ?_|refine fC ?_)
 refine bI bD cO (Ed fin al hv) ?_
 rintro _ rfl
 refine ⟨bF,_,_,_,_,_,gq,(by decide),bC,?_⟩
 have hfl:=gB (·.f) fin.length al
 generalize hLF:bz (·.f) fin.length al=LF at hfl
 repeat (first|refine rQ dI ?_|refine cZ ?_)
 refine LH dI aO aQ jJ mP (by rfl) (by simp only [qA,List.cons_append,List.nil_append,List.append_nil,List.map_cons,List.map_nil,if_true,if_false,reduceIte];try rfl) ?_
 repeat (first|refine ag ?_|refine aV ?_|refine af ?_|refine bY (by rfl) ?_|refine ah ?_|refine ae ?_|refine aH ?_|refine aJ ?_|refine Dy dI (by rfl) (by omega) aQ aQ ?_)
 rw [<- wu (·.t)]
 refine cu [1,2,5,6,26,27,28] (fun k:Nat=>k<=al.length)
  (fun k=>⟨[(1,.sl w.length (HL.ints w)),(2,.pref 0 [] 0),(5,.pref 1 [] 0),(6,.ref 2 [] 1 0 fin.length),(26,.sl al.length (recs aC al)),(27,.int .i64 al.length),(28,.int .i64 k)],[(0,.optr [.sl fin.length (HL.bools fin),.sl al.length (recs aC al)]),(1,.optr [.sl w.length (HL.ints w),.osl 1 fin.length (eG LF),.omap ⟨.ints 2,none⟩ [] []]),(2,.osl 1 fin.length (eG (bz (·.t) fin.length (al.take k))))],3⟩)
  (fun k=>al.length - k) 0 (by omega) rfl ?_
 intro k hk
 by_cases hkl:k<al.length
 ·have ha:=gJ hv (l9 hkl)
  have hlen:=gB (·.t) fin.length (al.take k)
  have hrow:((bz (·.t) fin.length (al.take k)).getD (al.getD k default).t.toNat []).length<=8192:=Nat.le_trans vN (by simp;omega)
  have hst:=ul (p:=(·.t)) (n:=fin.length) (l:=al.take k) (a:=al.getD k default) (j:=(al.getD k default).t.toNat) (by omega)
  rw [<- dC hkl] at hst
  have hro:=xN (bz (·.t) fin.length (al.take k)) (al.getD k default).t.toNat ((bz (·.t) fin.length (al.take k)).getD (al.getD k default).t.toNat []++[al.getD k default]) .dead (n:=((bz (·.t) fin.length (al.take k)).getD (al.getD k default).t.toNat []).length+1) (by simp)
  rw [hst] at hro
  repeat (first|refine aZ ?_|refine af ?_|refine az ?_|refine au ?_|refine ah ?_|refine ae ?_|refine aH ?_|refine aF ?_|refine bG ?_|refine dG ?_|refine bP dI ?_)
  refine bT 51 [1,2,5,6,8,26,27,28] ⟨[(1,.sl w.length (HL.ints w)),(2,.pref 0 [] 0),(5,.pref 1 [] 0),(6,.ref 2 [] 1 0 fin.length),(8,.ptr (aC (al.getD k default)) 0),(26,.sl al.length (recs aC al)),(27,.int .i64 al.length),(28,.int .i64 k)],[(0,.optr [.sl fin.length (HL.bools fin),.sl al.length (recs aC al)]),(1,.optr [.sl w.length (HL.ints w),.osl 1 fin.length (eG LF),.omap ⟨.ints 2,none⟩ [] []]),(2,.osl 1 fin.length (eG (bz (·.t) fin.length (al.take k))))],3⟩ rfl ?_
  unfold NT
  refine kE [8] [6] bM bM (fun _ _ _=>False) (by simp [aG,HV.deep,bf,aC]) (by simp [aG,HV.deep,bf]) ?_
  simp only [aC]
  repeat (first|refine ag ?_|refine nT (by rfl) (by rfl) (by omega) dI ?_|refine iL (by rfl) aT (by (try simp (disch:=omega) only [go_sem,hro]);try rfl) ?_|refine iq (by rfl) bH (by (try simp (disch:=omega) only [go_sem,reduceIte,Nat.reduceEqDiff,Nat.reduceAdd,Nat.reduceMul,hro]);try rfl) aT (by (try simp (disch:=omega) only [go_sem,hro]);try rfl) aO ?_|refine af ?_|refine jI (by rfl) (by rfl) (by (try simp (disch:=omega) only [go_sem,Int.reduceAdd,Int.reduceSub,Int.reduceMul,hro]);try rfl) ?_|refine ae ?_|refine fE ?_|refine dw ?_|refine pG (by rfl) aT (by (try simp (disch:=omega) only [go_sem,reduceIte,Nat.reduceEqDiff,Nat.reduceAdd,Nat.reduceMul,hro]);try rfl) ?_|refine mi (by rfl) aO aQ jJ mP (by rfl) nX (by rfl) nV (by (try simp (disch:=omega) only [go_sem,reduceIte,Nat.reduceEqDiff,Nat.reduceAdd,Nat.reduceMul,hro]);try rfl) aT (by (try simp (disch:=omega) only [go_sem,hro]);try rfl) aQ jq ?_|refine bW ?_|refine lW dI (by rfl) aO rE (by (try simp (disch:=omega) only [go_sem,reduceIte,Nat.reduceEqDiff,Nat.reduceAdd,Nat.reduceMul,hro]);try omega) bH (by (try simp (disch:=omega) only [go_sem,reduceIte,Nat.reduceEqDiff,Nat.reduceAdd,Nat.reduceMul,hro]);try rfl) dI (by omega) gX aT (by (try simp (disch:=omega) only [go_sem,reduceIte,Nat.reduceEqDiff,Nat.reduceAdd,Nat.reduceMul,hro]);try rfl) aQ ?_)
  exact dm [1,2,5,6,26,27,28] (k+1) hkl (by omega) rfl
 ·obtain rfl:k=al.length:=by omega
  rw [List.take_length]
  repeat (first|refine aV ?_|refine af ?_|refine az ?_|refine bK (by rfl) ?_|refine ak ?_|refine ah ?_|refine ae ?_|refine dR rfl (by rfl) dI ?_|refine aJ ?_)
  refine bI bD cO (GV fin (by omega)) ?_
  rintro _ rfl
  refine ⟨bF,_,_,_,_,_,gq,(by decide),bC,?_⟩
  have hfin:=AC fin fin.length
  have hmf:=fun p=>mem_finL (fin:=fin) (p:=p)
  generalize hFL:qw fin fin.length=fl at hfin hmf
  have htl:=gB (·.t) fin.length al
  have hrt:∀i:Nat,i<fin.length->(bz (·.t) fin.length al).getD i []=al.filter fun a=>a.t==(i:Int):=fun i hi=>jQ _ _ hi
  generalize hLT:bz (·.t) fin.length al=LT at htl hrt
  repeat (first|refine ag ?_|refine af ?_|refine eU (by rfl) ?_|refine aH ?_)
  refine bT 2 [1,5,6,9,47,48,49] ⟨[(1,.sl w.length (HL.ints w)),(5,.pref 0 [] 0),(6,.sl fin.length (dV LT)),(9,.ref 1 [] 2 0 0),(47,.ref 2 [] 1 0 fl.length),(48,.int .i64 fl.length),(49,.int .i64 0)],[(0,.optr [.sl w.length (HL.ints w),.osl 1 fin.length (eG LF),.omap ⟨.ints 2,none⟩ [] []]),(1,.osl 2 0 []),(2,.osl 1 fl.length (HL.ints fl))],3⟩ (by rw [<- GK LT htl];rfl) ?_
  refine cu [1,5,6,9,47,48,49] (fun k:Nat=>k<=fl.length)
   (fun k=>⟨[(1,.sl w.length (HL.ints w)),(5,.pref 0 [] 0),(6,.sl fin.length (dV LT)),(9,.ref 1 [] 2 0 k),(47,.ref 2 [] 1 0 fl.length),(48,.int .i64 fl.length),(49,.int .i64 k)],[(0,.optr [.sl w.length (HL.ints w),.osl 1 fin.length (eG LF),.omap ⟨.ints 2,none⟩ [] []]),(1,.osl 2 k (qX ((fl.take k).map fun p=>(p,(w.length:Int))))),(2,.osl 1 fl.length (HL.ints fl))],3⟩)
   (fun k=>fl.length - k) 0 (by omega) rfl ?_
  intro k hk
  by_cases hkl:k<fl.length
  ·have htk:=dC hkl
   have hpl:((fl.take k).map fun p=>(p,(w.length:Int))).length=k:=by simp;omega
   have hps2:((fl.take k).map fun p=>(p,(w.length:Int)))++[(fl.getD k 0,(w.length:Int))]=(fl.take (k+1)).map fun p=>(p,(w.length:Int)):=by rw [htk,List.map_append];rfl
   generalize (fl.take k).map (fun p=>(p,(w.length:Int)))=tk at hpl hps2
   repeat (first|refine ag ?_|refine nT (by rfl) (by rfl) (by omega) dI ?_|refine aV ?_|refine af ?_|refine az ?_|refine bu ?_|refine bY (by rfl) ?_|refine au ?_|refine ah ?_|refine ae ?_|refine aH ?_|refine fE ?_|refine aF ?_|refine bW ?_|refine gW ?_|refine cZ ?_)
   exact dm [1,5,6,9,47,48,49] (k+1) hkl (by omega) (by rw [<- hps2];rfl)
  ·obtain rfl:k=fl.length:=by omega
   rw [List.take_length]
   have hs:=SI.start (al:=al) (w:=w) hmf
   have hpl:(fl.map fun p=>(p,(w.length:Int))).length=fl.length:=by simp
   generalize fl.map (fun p=>(p,(w.length:Int)))=td0 at hs hpl
   rw [<- hpl]
   repeat (first|refine af ?_|refine az ?_|refine bK (by rfl) ?_|refine ak ?_|refine ah ?_|refine ae ?_|refine aH ?_)
   refine cu [1,5,6,9] (fun s:List Nd×List Nd=>SI fin al w s.1 s.2/\s.2.length<=fl.length+s.1.length*al.length)
    (fun s=>⟨[(1,.sl w.length (HL.ints w)),(5,.pref 0 [] 0),(6,.sl fin.length (dV LT)),(9,.ref 1 [] 2 0 s.2.length)],[(0,.optr [.sl w.length (HL.ints w),.osl 1 fin.length (eG LF),.omap ⟨.ints 2,none⟩ (s.1.map pk) (jU s.1.length)]),(1,.osl 2 s.2.length (qX s.2))],2⟩)
    (fun s=>(fin.length*(w.length+1) - s.1.length)*(al.length+1)+s.2.length) ([],td0) ⟨hs,by simp;omega⟩ rfl ?_
   rintro ⟨G,td⟩ ⟨hsi,htd⟩
   simp only at hsi htd ⊢
   have hcard:=qG hsi.nodup fun x hx=>(hsi.good x (by simp [hx])).2
   have hb1:fin.length*(w.length+1)<=2048*1025:=Nat.mul_le_mul h2 (by omega)
   have hb2:G.length*al.length<=2048*1025*8192:=Nat.mul_le_mul (by omega) h3
   rcases List.eq_nil_or_concat td with rfl|⟨td',v,rfl⟩
   ·repeat (first|refine ag ?_|refine af ?_|refine eU (by rfl) ?_|refine bK (by rfl) ?_|refine ak ?_|refine ah ?_|refine ae ?_|refine bU ?_)
    refine ax ?_
    exact ⟨G,by rw [PD,hfl];rfl,hsi.nodup,hsi.done⟩
   ·rw [List.concat_eq_append] at hsi htd ⊢
    have hsn:(td'++[v]).length=td'.length+1:=by simp
    have hv1:=(hsi.good v (by simp)).2
    have hgv:(td'++[v]).getD td'.length default=v:=Fp _ _ _ rfl
    have hz:(((td'.length+1:Nat):Int) - 1).toNat=td'.length:=by omega
    rw [hsn] at htd ⊢
    repeat (first|refine ag ?_|refine nT (by rfl) (by rfl) (by omega) dI ?_|refine af ?_|refine eU (by rfl) ?_|refine au ?_|refine ah ?_|refine ae ?_|refine aH ?_|refine aF ?_|refine Fg (by rfl) (by rfl) (by (try simp (disch:=omega) only [go_sem,Int.reduceAdd,Int.reduceSub,Int.reduceMul,hz,hgv]);try rfl) ?_|refine bU ?_|refine iK (by rfl) bH aQ aT (by decide) (by (try simp (disch:=omega) only [go_sem,reduceIte,Nat.reduceEqDiff,Nat.reduceAdd,Nat.reduceMul,hz,hgv]);try rfl) iH ?_|refine yV (by rfl) aO aQ iH (by rfl) (by decide) bH aQ aT (by (try simp (disch:=omega) only [go_sem,hz,hgv]);try rfl) aQ ?_|refine QJ (by rfl) (by rfl) (by rfl) (by omega) aQ dI ?_|refine bP dI ?_)
    refine Cj 9 [1,5,6,9,12] ⟨[(1,.sl w.length (HL.ints w)),(5,.pref 0 [] 0),(6,.sl fin.length (dV LT)),(9,.ref 1 [] 2 0 td'.length),(12,.pref 2 [] 0)],[(0,.optr [.sl w.length (HL.ints w),.osl 1 fin.length (eG LF),.omap ⟨.ints 2,none⟩ (G.map pk) (jU G.length)]),(1,.osl 2 td'.length (qX td')),(2,.optr [.int .i64 v.1,.int .i64 v.2])],3⟩ rfl rfl (by omega) (zG _) (by decide) (by rw [hz,IB];rfl) ?_
    obtain ⟨v1,v2⟩:=v
    by_cases hG:(v1,v2)∈G
    ·have hd:decide ((v1,v2)∈G)=true:=decide_eq_true hG
     refine fM bM bM (fun _ _ _=>False) ?_
     repeat (first|refine ag ?_|refine iq (by rfl) bH (by (try simp (disch:=omega) only [go_sem,reduceIte,Nat.reduceEqDiff,Nat.reduceAdd,Nat.reduceMul,hd]);try rfl) aT (by (try simp (disch:=omega) only [go_sem,hd]);try rfl) aO ?_|refine af ?_|refine bK (by rfl) ?_|refine au ?_|refine aJ ?_|refine iK (by rfl) bH aQ aT (by decide) (by (try simp (disch:=omega) only [go_sem,reduceIte,Nat.reduceEqDiff,Nat.reduceAdd,Nat.reduceMul,hd]);try rfl) iH ?_|refine pF (by rfl) (by rfl) (by exact eY rfl) aO ⟨rfl,rfl⟩ (by (try simp (disch:=omega) only [go_sem,reduceIte,Nat.reduceEqDiff,Nat.reduceAdd,Nat.reduceMul,hd]);try rfl) (by rfl) ?_|refine fV aO rfl ?_)
     exact dm [1,5,6,9] (G,td') ⟨hsi.skip hG,by simp only;omega⟩ iU rfl
    ·have hd:decide ((v1,v2)∈G)=false:=decide_eq_false hG
     have hins:ins (v1,v2) G=G++[(v1,v2)]:=by unfold ins;rw [if_neg hG]
     have hgl:(G++[(v1,v2)]).length=G.length+1:=by simp
     have hst:=hsi.step (fun a ha=>UC hv a ha) hG
     have hcard':=qG hst.nodup fun x hx=>(hst.good x (by simp only [List.mem_append] at hx ⊢;exact .inl hx)).2
     rw [hgl] at hcard'
     obtain ⟨g1,g2,g3,g4⟩:=hv1
     simp only at g1 g2 g3 g4
     have hrow:=hrt v1.toNat (by omega)
     rw [show ((v1.toNat:Nat):Int)=v1 by omega] at hrow
     have hrl:(LT.getD v1.toNat []).length<=al.length:=by rw [hrow];exact List.length_filter_le _ _
     have hrm:∀k,k<(LT.getD v1.toNat []).length->(LT.getD v1.toNat []).getD k default∈al:=fun k hk=>by
      have:=l9 hk
      rw [hrow] at this ⊢
      exact (List.mem_filter.1 this).1
     rw [<- hrow] at hst
     generalize hR:LT.getD v1.toNat []=R at hrl hrm hst
     refine fM bM bM (fun _ _ _=>False) ?_
     repeat (first|refine ag ?_|refine iq (by rfl) bH (by (try simp (disch:=omega) only [go_sem,reduceIte,Nat.reduceEqDiff,Nat.reduceAdd,Nat.reduceMul,hd]);try rfl) aT (by (try simp (disch:=omega) only [go_sem,hd]);try rfl) aO ?_|refine af ?_|refine ak ?_|refine ah ?_|refine aF ?_|refine aJ ?_|refine iK (by rfl) bH aQ aT (by decide) (by (try simp (disch:=omega) only [go_sem,reduceIte,Nat.reduceEqDiff,Nat.reduceAdd,Nat.reduceMul,hd]);try rfl) iH ?_|refine pF (by rfl) (by rfl) (by exact eY rfl) aO ⟨rfl,rfl⟩ (by (try simp (disch:=omega) only [go_sem,reduceIte,Nat.reduceEqDiff,Nat.reduceAdd,Nat.reduceMul,hd]);try rfl) (by rfl) ?_|refine fV aO rfl ?_)
     refine fM bM bM (fun _ _ _=>False) ?_
     repeat (first|refine ag ?_|refine aZ ?_|refine iL (by rfl) aT (by (try simp (disch:=omega) only [go_sem,hins,hR]);try rfl) ?_|refine iq (by rfl) bH (by (try simp (disch:=omega) only [go_sem,reduceIte,Nat.reduceEqDiff,Nat.reduceAdd,Nat.reduceMul,hins,hR]);try rfl) aT (by (try simp (disch:=omega) only [go_sem,hins,hR]);try rfl) aO ?_|refine af ?_|refine bY (by rfl) ?_|refine ah ?_|refine ae ?_|refine aH ?_|refine aJ ?_|refine iK (by rfl) bH aQ aT (by decide) (by (try simp (disch:=omega) only [go_sem,reduceIte,Nat.reduceEqDiff,Nat.reduceAdd,Nat.reduceMul,hins,hR]);try rfl) iH ?_|refine oC (by rfl) aO aO kM (by trivial) kM (by exact eY rfl) ⟨rfl,rfl⟩ (by (try simp (disch:=omega) only [go_sem,reduceIte,Nat.reduceEqDiff,Nat.reduceAdd,Nat.reduceMul,hins,hR]);try rfl) aQ jq ?_|refine fV aO rfl ?_)
     refine cu [1,5,6,9,12,90,91,92] (fun k:Nat=>k<=R.length)
      (fun k=>⟨[(1,.sl w.length (HL.ints w)),(5,.pref 0 [] 0),(6,.sl fin.length (dV LT)),(9,.ref 1 [] 2 0 (td'++(R.take k).filterMap (jf w (v1,v2))).length),(12,.pref 2 [] 0),(90,.sl R.length (recs aC R)),(91,.int .i64 R.length),(92,.int .i64 k)],[(0,.optr [.sl w.length (HL.ints w),.osl 1 fin.length (eG LF),.omap ⟨.ints 2,none⟩ ((G++[(v1,v2)]).map pk) (jU (G++[(v1,v2)]).length)]),(1,.osl 2 (td'++(R.take k).filterMap (jf w (v1,v2))).length (qX (td'++(R.take k).filterMap (jf w (v1,v2))))),(2,.optr [.int .i64 v1,.int .i64 v2])],3⟩)
      (fun k=>R.length - k) 0 (by omega) (by simp only [List.take_zero,List.filterMap_nil,List.append_nil];rfl) ?_
     intro k hk
     by_cases hkl:k<R.length
     ·have ha:=gJ hv (hrm k hkl)
      have hT:=Ku (w:=w) (y:=(v1,v2)) td' hkl
      have hTl:(td'++(R.take k).filterMap (jf w (v1,v2))).length<=td'.length+k:=by
       have:=List.length_filterMap_le (jf w (v1,v2)) (R.take k)
       rw [List.length_take] at this
       rw [List.length_append];omega
      generalize (td'++(R.take k).filterMap (jf w (v1,v2)))=T at hT hTl
      by_cases hi:(R.getD k default).i = -1
      ·have hp:jf w (v1,v2) (R.getD k default)=some ((R.getD k default).f,v2):=by simp only [jf,if_pos hi]
       have hTl2:(T++[((R.getD k default).f,v2)]).length=T.length+1:=by simp
       rw [hp] at hT
       repeat (first|refine ag ?_|refine aZ ?_|refine aV ?_|refine af ?_|refine az ?_|refine bQ ?_|refine bu ?_|refine au ?_|refine ah ?_|refine ae ?_|refine aH ?_|refine fE ?_|refine aF ?_|refine aJ ?_|refine bG ?_|refine dG ?_|refine bW ?_|refine bP dI ?_|refine gW ?_|refine cZ ?_)
       exact dm [1,5,6,9,12,90,91,92] (k+1) hkl (by omega) (by simp only [hT,Option.toList_some,hTl2];rfl)
      ·by_cases h0:0<v2
       ·by_cases he:w.getD (v2 - 1).toNat 0=(R.getD k default).i
        ·have hp:jf w (v1,v2) (R.getD k default)=some ((R.getD k default).f,v2 - 1):=by simp only [jf,if_neg hi];exact if_pos ⟨h0,he⟩
         have hTl2:(T++[((R.getD k default).f,v2 - 1)]).length=T.length+1:=by simp
         rw [hp] at hT
         repeat (first|refine aZ ?_|refine aV ?_|refine af ?_|refine az ?_|refine bQ ?_|refine au ?_|refine ak ?_|refine ah ?_|refine ae ?_|refine aH ?_|refine aF ?_|refine aJ ?_|refine bG ?_|refine dG ?_|refine bP dI ?_)
         refine fM bM bM (fun _ _ _=>False) ?_
         repeat (first|refine ag ?_|refine aK ?_|refine aZ ?_|refine dP ?_|refine aV ?_|refine af ?_|refine bQ ?_|refine aN ?_|refine bu ?_|refine au ?_|refine ae ?_|refine fE ?_|refine Fg (by rfl) (by rfl) Iw ?_|refine bU ?_|refine aJ ?_|refine bW ?_|refine gW ?_|refine cZ ?_)
         exact dm [1,5,6,9,12,90,91,92] (k+1) hkl (by omega) (by simp only [hT,Option.toList_some,hTl2];rfl)
        ·have hp:jf w (v1,v2) (R.getD k default)=none:=by simp only [jf,if_neg hi];exact if_neg fun h=>he h.2
         rw [hp] at hT
         repeat (first|refine aZ ?_|refine aV ?_|refine af ?_|refine az ?_|refine bQ ?_|refine au ?_|refine ak ?_|refine ah ?_|refine ae ?_|refine aH ?_|refine aF ?_|refine aJ ?_|refine bG ?_|refine dG ?_|refine bP dI ?_)
         refine fM bM bM (fun _ _ _=>False) ?_
         repeat (first|refine ag ?_|refine aK ?_|refine aZ ?_|refine dP ?_|refine aV ?_|refine af ?_|refine bQ ?_|refine aN ?_|refine bu ?_|refine ak ?_|refine ae ?_|refine fE ?_|refine aF ?_|refine Fg (by rfl) (by rfl) Iw ?_|refine bU ?_|refine aJ ?_)
         exact dm [1,5,6,9,12,90,91,92] (k+1) hkl (by omega) (by simp only [hT,Option.toList_none,List.append_nil];rfl)
       ·have hp:jf w (v1,v2) (R.getD k default)=none:=by simp only [jf,if_neg hi];exact if_neg fun h=>h0 h.1
        rw [hp] at hT
        repeat (first|refine aZ ?_|refine aV ?_|refine af ?_|refine az ?_|refine bQ ?_|refine au ?_|refine ak ?_|refine ah ?_|refine ae ?_|refine aH ?_|refine aF ?_|refine aJ ?_|refine bG ?_|refine dG ?_|refine bP dI ?_)
        refine fM bM bM (fun _ _ _=>False) ?_
        repeat (first|refine ag ?_|refine bV ?_|refine aV ?_|refine af ?_|refine aI ?_|refine bu ?_|refine ak ?_|refine ae ?_|refine fE ?_|refine aF ?_|refine bU ?_|refine aJ ?_)
        exact dm [1,5,6,9,12,90,91,92] (k+1) hkl (by omega) (by simp only [hT,Option.toList_none,List.append_nil];rfl)
     ·obtain rfl:k=R.length:=by omega
      rw [List.take_length]
      have hTl:(td'++R.filterMap (jf w (v1,v2))).length<=td'.length+R.length:=by
       have:=List.length_filterMap_le (jf w (v1,v2)) R
       rw [List.length_append];omega
      generalize (td'++R.filterMap (jf w (v1,v2)))=T at hst hTl
      repeat (first|refine af ?_|refine az ?_|refine bK (by rfl) ?_|refine ak ?_|refine ah ?_|refine ae ?_|refine fE ?_)
      exact dm [1,5,6,9] (G++[(v1,v2)],T) ⟨hst,by simp only [hgl,Nat.add_mul,Nat.one_mul];omega⟩ (by
       simp only [hgl]
       have:fin.length*(w.length+1) - G.length=(fin.length*(w.length+1) - (G.length+1))+1:=by omega
       rw [this,Nat.add_mul _ 1];omega) rfl
end Go.Proofs.Ytlbdmpjnmfmnfaa
