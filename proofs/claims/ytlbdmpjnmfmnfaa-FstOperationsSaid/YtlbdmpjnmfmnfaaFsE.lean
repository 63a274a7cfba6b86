import Derived.Test.YtlbdmpjnmfmnfaaFsW
import Derived.Test.YtlbdmpjnmfmnfaaFsN
import Derived.Test.YtlbdmpjnmfmnfaaFsB
set_option linter.unusedSimpArgs false
set_option linter.unusedVariables false
set_option maxHeartbeats 8000000
section
namespace Go.Proofs.Ytlbdmpjnmfmnfaa
open Go.RowKit Go.HL Go.FS
theorem aeb {fin:List Bool} {al:List A} (h:okF fin al=true):∀a∈al,0<=a.f/\a.f<fin.length:=fun a ha=>⟨(cu h ha).1,(cu h ha).2.1⟩
theorem VO (ll:List (List A)) {n:Nat} (h:ll.length=n):stripL (win (dw ll) 0 (n*1))=bF ll:=by
 rw [<- ku,win,if_pos ⟨rfl,by rw [qw];omega⟩]
theorem XM (l:List Nd) (v:Nd):(Bq (l++[v])).take (l.length*2)=Bq l:=by
 rw [show Bq (l++[v])=Bq l++pC v by simp [recs],List.take_left' (Tz l)]
theorem YO {w:List Int} {y:Nd} {R:List A} {k:Nat} (td:List Nd) (h:k<R.length):td++(R.take (k+1)).filterMap (kG w y)=(td++(R.take k).filterMap (kG w y))++(kG w y (R.getD k default)).toList:=by
 rw [bK h,List.filterMap_append,kQ]
 generalize R.getD k default=a
 cases hp:kG w y a<;>simp [hp]
theorem UH {α:Type} (l:List α) (v d:α) {i:Nat} (h:i=l.length):(l++[v]).getD i d=v:=by subst h;simp
def ab6 (w:List Int) (ll:List (List A)) (G:List Nd):HV:=.optr [.sl w.length (HL.ints w),.osl 1 ll.length (dw ll),.omap ⟨.ints 2,none⟩ (G.map pk) (qC G.length)]
theorem WE (fin:List Bool) (al:List A) (w:List Int) (hv:okF fin al=true) (hw:w.length<=1024):HT Try.prog 54 [.agg (dE fin al),.sl w.length (HL.ints w)] (fun r=>∃G,r=ab6 w (aG (·.f) fin.length al) G/\G.Nodup/\∀x,x∈G <-> FS.Good fin al w x):=by
 obtain ⟨h1,h2,h3⟩:=bY hv
 refine HT.of rfl agH (aZ rfl) ?_
 unfold c54
 simp only [aA,Nat.reduceAdd,dE,fB]
 refine zF ⟨?_⟩
 refine aF ay aK (TB fin al hv) ?_
 rintro _ rfl
 refine zG ⟨?_⟩
 have hfl:=dD (·.f) fin.length al
 generalize hLF:aG (·.f) fin.length al=LF at hfl
 refine zF ⟨?_⟩
 refine ZG iJ aQ aU xh Hr (by rfl) (by simp only [uT,List.cons_append,List.nil_append,List.append_nil,dV,pY,if_true,if_false,reduceIte];try rfl) ?_
 refine zF ⟨?_⟩
 rw [<- xe (·.t)]
 refine aI [1,2,5,6,26,27,28] (fun k:Nat=>k<=al.length)
  (fun k=>⟨[(1,.sl w.length (HL.ints w)),(2,.pref 0 [] 0),(5,.pref 1 [] 0),(6,.ref 2 [] 1 0 fin.length),(26,.sl al.length (recs aC al)),(27,.int .i64 al.length),(28,.int .i64 k)],[(0,.optr [.sl fin.length (HL.bools fin),.sl al.length (recs aC al)]),(1,.optr [.sl w.length (HL.ints w),.osl 1 fin.length (dw LF),.omap ⟨.ints 2,none⟩ [] []]),(2,.osl 1 fin.length (dw (aG (·.t) fin.length (al.take k))))],3⟩)
  (fun k=>al.length - k) 0 (by omega) rfl ?_
 intro k hk
 by_cases hkl:k<al.length
 ·have ha:=cu hv (fJ hkl)
  have hlen:=dD (·.t) fin.length (al.take k)
  have hrow:((aG (·.t) fin.length (al.take k)).getD (al.getD k default).t.toNat []).length<=8192:=jc wG (by simp;omega)
  have hst:=uq (p:=(·.t)) (n:=fin.length) (l:=al.take k) (a:=al.getD k default) (j:=(al.getD k default).t.toNat) (by omega)
  rw [<- bK hkl] at hst
  have hro:=zn (aG (·.t) fin.length (al.take k)) (al.getD k default).t.toNat ((aG (·.t) fin.length (al.take k)).getD (al.getD k default).t.toNat []++[al.getD k default]) .dead (n:=((aG (·.t) fin.length (al.take k)).getD (al.getD k default).t.toNat []).length+1) (by simp)
  rw [hst] at hro
  refine zF ⟨?_⟩
  refine az 51 [1,2,5,6,8,26,27,28] ⟨[(1,.sl w.length (HL.ints w)),(2,.pref 0 [] 0),(5,.pref 1 [] 0),(6,.ref 2 [] 1 0 fin.length),(8,.ptr (aC (al.getD k default)) 0),(26,.sl al.length (recs aC al)),(27,.int .i64 al.length),(28,.int .i64 k)],[(0,.optr [.sl fin.length (HL.bools fin),.sl al.length (recs aC al)]),(1,.optr [.sl w.length (HL.ints w),.osl 1 fin.length (dw LF),.omap ⟨.ints 2,none⟩ [] []]),(2,.osl 1 fin.length (dw (aG (·.t) fin.length (al.take k))))],3⟩ rfl ?_
  unfold abl
  refine iW [8] [6] ah ah (fun _ _ _=>False) (by simp [ax,HV.deep,aO,aC]) (by simp [ax,HV.deep,aO]) ?_
  simp only [aC]
  refine eH @hro ⟨?_⟩
  exact aP [1,2,5,6,26,27,28] (k+1) hkl (by omega) rfl
 ·obtain rfl:k=al.length:=by omega
  rw [fK]
  refine zF ⟨?_⟩
  refine aF ay aK (zN fin (by omega)) ?_
  rintro _ rfl
  refine zG ⟨?_⟩
  have hfin:=nJ fin fin.length
  have hmf:=fun p=>mem_finL (fin:=fin) (p:=p)
  generalize hFL:jA fin fin.length=fl at hfin hmf
  have htl:=dD (·.t) fin.length al
  have hrt:∀i:Nat,i<fin.length->(aG (·.t) fin.length al).getD i []=al.filter fun a=>a.t==(i:Int):=fun i hi=>kV _ _ hi
  generalize hLT:aG (·.t) fin.length al=LT at htl hrt
  refine zF ⟨?_⟩
  refine az 2 [1,5,6,9,47,48,49] ⟨[(1,.sl w.length (HL.ints w)),(5,.pref 0 [] 0),(6,.sl fin.length (bF LT)),(9,.ref 1 [] 2 0 0),(47,.ref 2 [] 1 0 fl.length),(48,.int .i64 fl.length),(49,.int .i64 0)],[(0,.optr [.sl w.length (HL.ints w),.osl 1 fin.length (dw LF),.omap ⟨.ints 2,none⟩ [] []]),(1,.osl 2 0 []),(2,.osl 1 fl.length (HL.ints fl))],3⟩ (by rw [<- VO LT htl];rfl) ?_
  refine aI [1,5,6,9,47,48,49] (fun k:Nat=>k<=fl.length)
   (fun k=>⟨[(1,.sl w.length (HL.ints w)),(5,.pref 0 [] 0),(6,.sl fin.length (bF LT)),(9,.ref 1 [] 2 0 k),(47,.ref 2 [] 1 0 fl.length),(48,.int .i64 fl.length),(49,.int .i64 k)],[(0,.optr [.sl w.length (HL.ints w),.osl 1 fin.length (dw LF),.omap ⟨.ints 2,none⟩ [] []]),(1,.osl 2 k (Bq ((fl.take k).map fun p=>(p,(w.length:Int))))),(2,.osl 1 fl.length (HL.ints fl))],3⟩)
   (fun k=>fl.length - k) 0 (by omega) rfl ?_
  intro k hk
  by_cases hkl:k<fl.length
  ·have htk:=bK hkl
   have hpl:((fl.take k).map fun p=>(p,(w.length:Int))).length=k:=by simp;omega
   have hps2:((fl.take k).map fun p=>(p,(w.length:Int)))++[(fl.getD k 0,(w.length:Int))]=(fl.take (k+1)).map fun p=>(p,(w.length:Int)):=by rw [htk,qj];rfl
   generalize (fl.take k).map (fun p=>(p,(w.length:Int)))=tk at hpl hps2
   refine zF ⟨?_⟩
   exact aP [1,5,6,9,47,48,49] (k+1) hkl (by omega) (by rw [<- hps2];rfl)
  ·obtain rfl:k=fl.length:=by omega
   rw [fK]
   have hs:=SI.start (al:=al) (w:=w) hmf
   have hpl:(fl.map fun p=>(p,(w.length:Int))).length=fl.length:=by simp
   generalize fl.map (fun p=>(p,(w.length:Int)))=td0 at hs hpl
   rw [<- hpl]
   refine zF ⟨?_⟩
   refine aI [1,5,6,9] (fun s:List Nd×List Nd=>SI fin al w s.1 s.2/\s.2.length<=fl.length+s.1.length*al.length)
    (fun s=>⟨[(1,.sl w.length (HL.ints w)),(5,.pref 0 [] 0),(6,.sl fin.length (bF LT)),(9,.ref 1 [] 2 0 s.2.length)],[(0,.optr [.sl w.length (HL.ints w),.osl 1 fin.length (dw LF),.omap ⟨.ints 2,none⟩ (s.1.map pk) (qC s.1.length)]),(1,.osl 2 s.2.length (Bq s.2))],2⟩)
    (fun s=>(fin.length*(w.length+1) - s.1.length)*(al.length+1)+s.2.length) ([],td0) ⟨hs,by simp;omega⟩ rfl ?_
   rintro ⟨G,td⟩ ⟨hsi,htd⟩
   simp only at hsi htd ⊢
   have hcard:=kw hsi.nodup fun x hx=>(hsi.good x (by simp [hx])).2
   have hb1:fin.length*(w.length+1)<=2048*1025:=tK h2 (by omega)
   have hb2:G.length*al.length<=2048*1025*8192:=tK (by omega) h3
   rcases List.eq_nil_or_concat td with rfl|⟨td',v,rfl⟩
   ·refine zF ⟨?_⟩
    refine ae ?_
    exact ⟨G,by rw [ab6,hfl];rfl,hsi.nodup,hsi.done⟩
   ·rw [List.concat_eq_append] at hsi htd ⊢
    have hsn:(td'++[v]).length=td'.length+1:=by simp
    have hv1:=(hsi.good v (by simp)).2
    have hgv:(td'++[v]).getD td'.length default=v:=UH _ _ _ rfl
    have hz:(((td'.length+1:Nat):Int) - 1).toNat=td'.length:=by omega
    rw [hsn] at htd ⊢
    refine eH (zA @hz @hgv) ⟨?_⟩
    refine Bh 9 [1,5,6,9,12] ⟨[(1,.sl w.length (HL.ints w)),(5,.pref 0 [] 0),(6,.sl fin.length (bF LT)),(9,.ref 1 [] 2 0 td'.length),(12,.pref 2 [] 0)],[(0,.optr [.sl w.length (HL.ints w),.osl 1 fin.length (dw LF),.omap ⟨.ints 2,none⟩ (G.map pk) (qC G.length)]),(1,.osl 2 td'.length (Bq td')),(2,.optr [.int .i64 v.1,.int .i64 v.2])],3⟩ rfl rfl (by omega) (Nv _) (by decide) (by rw [hz,XM];rfl) ?_
    obtain ⟨v1,v2⟩:=v
    by_cases hG:(v1,v2)∈G
    ·have hd:decide ((v1,v2)∈G)=true:=decide_eq_true hG
     refine bG ah ah (fun _ _ _=>False) ?_
     refine eH @hd ⟨?_⟩
     exact aP [1,5,6,9] (G,td') ⟨hsi.skip hG,by simp only;omega⟩ dL rfl
    ·have hd:decide ((v1,v2)∈G)=false:=decide_eq_false hG
     have hins:ins (v1,v2) G=G++[(v1,v2)]:=by unfold ins;rw [if_neg hG]
     have hgl:(G++[(v1,v2)]).length=G.length+1:=by simp
     have hst:=hsi.step (fun a ha=>aeb hv a ha) hG
     have hcard':=kw hst.nodup fun x hx=>(hst.good x (by simp only [zl003] at hx ⊢;exact .inl hx)).2
     rw [hgl] at hcard'
     obtain ⟨g1,g2,g3,g4⟩:=hv1
     simp only at g1 g2 g3 g4
     have hrow:=hrt v1.toNat (by omega)
     rw [show ((v1.toNat:Nat):Int)=v1 by omega] at hrow
     have hrl:(LT.getD v1.toNat []).length<=al.length:=by rw [hrow];exact List.length_filter_le _ _
     have hrm:∀k,k<(LT.getD v1.toNat []).length->(LT.getD v1.toNat []).getD k default∈al:=fun k hk=>by
      have:=fJ hk
      rw [hrow] at this ⊢
      exact (zl042.1 this).1
     rw [<- hrow] at hst
     generalize hR:LT.getD v1.toNat []=R at hrl hrm hst
     refine bG ah ah (fun _ _ _=>False) ?_
     refine eH @hd ⟨?_⟩
     refine bG ah ah (fun _ _ _=>False) ?_
     refine eH (zA @hins @hR) ⟨?_⟩
     refine aI [1,5,6,9,12,90,91,92] (fun k:Nat=>k<=R.length)
      (fun k=>⟨[(1,.sl w.length (HL.ints w)),(5,.pref 0 [] 0),(6,.sl fin.length (bF LT)),(9,.ref 1 [] 2 0 (td'++(R.take k).filterMap (kG w (v1,v2))).length),(12,.pref 2 [] 0),(90,.sl R.length (recs aC R)),(91,.int .i64 R.length),(92,.int .i64 k)],[(0,.optr [.sl w.length (HL.ints w),.osl 1 fin.length (dw LF),.omap ⟨.ints 2,none⟩ ((G++[(v1,v2)]).map pk) (qC (G++[(v1,v2)]).length)]),(1,.osl 2 (td'++(R.take k).filterMap (kG w (v1,v2))).length (Bq (td'++(R.take k).filterMap (kG w (v1,v2))))),(2,.optr [.int .i64 v1,.int .i64 v2])],3⟩)
      (fun k=>R.length - k) 0 (by omega) (by simp only [List.take_zero,List.filterMap_nil,List.append_nil];rfl) ?_
     intro k hk
     by_cases hkl:k<R.length
     ·have ha:=cu hv (hrm k hkl)
      have hT:=YO (w:=w) (y:=(v1,v2)) td' hkl
      have hTl:(td'++(R.take k).filterMap (kG w (v1,v2))).length<=td'.length+k:=by
       have:=List.length_filterMap_le (kG w (v1,v2)) (R.take k)
       rw [dS] at this
       rw [bD];omega
      generalize (td'++(R.take k).filterMap (kG w (v1,v2)))=T at hT hTl
      by_cases hi:(R.getD k default).i = -1
      ·have hp:kG w (v1,v2) (R.getD k default)=some ((R.getD k default).f,v2):=by simp only [kG,if_pos hi]
       have hTl2:(T++[((R.getD k default).f,v2)]).length=T.length+1:=by simp
       rw [hp] at hT
       refine zF ⟨?_⟩
       exact aP [1,5,6,9,12,90,91,92] (k+1) hkl (by omega) (by simp only [hT,F9,hTl2];rfl)
      ·by_cases h0:0<v2
       ·by_cases he:w.getD (v2 - 1).toNat 0=(R.getD k default).i
        ·have hp:kG w (v1,v2) (R.getD k default)=some ((R.getD k default).f,v2 - 1):=by simp only [kG,if_neg hi];exact if_pos ⟨h0,he⟩
         have hTl2:(T++[((R.getD k default).f,v2 - 1)]).length=T.length+1:=by simp
         rw [hp] at hT
         refine zF ⟨?_⟩
         refine bG ah ah (fun _ _ _=>False) ?_
         refine zF ⟨?_⟩
         exact aP [1,5,6,9,12,90,91,92] (k+1) hkl (by omega) (by simp only [hT,F9,hTl2];rfl)
        ·have hp:kG w (v1,v2) (R.getD k default)=none:=by simp only [kG,if_neg hi];exact if_neg fun h=>he h.2
         rw [hp] at hT
         refine zF ⟨?_⟩
         refine bG ah ah (fun _ _ _=>False) ?_
         refine zF ⟨?_⟩
         exact aP [1,5,6,9,12,90,91,92] (k+1) hkl (by omega) (by simp only [hT,Option.toList_none,List.append_nil];rfl)
       ·have hp:kG w (v1,v2) (R.getD k default)=none:=by simp only [kG,if_neg hi];exact if_neg fun h=>h0 h.1
        rw [hp] at hT
        refine zF ⟨?_⟩
        refine bG ah ah (fun _ _ _=>False) ?_
        refine zF ⟨?_⟩
        exact aP [1,5,6,9,12,90,91,92] (k+1) hkl (by omega) (by simp only [hT,Option.toList_none,List.append_nil];rfl)
     ·obtain rfl:k=R.length:=by omega
      rw [fK]
      have hTl:(td'++R.filterMap (kG w (v1,v2))).length<=td'.length+R.length:=by
       have:=List.length_filterMap_le (kG w (v1,v2)) R
       rw [bD];omega
      generalize (td'++R.filterMap (kG w (v1,v2)))=T at hst hTl
      refine zF ⟨?_⟩
      exact aP [1,5,6,9] (G++[(v1,v2)],T) ⟨hst,by simp only [hgl,lg,BV];omega⟩ (by
       simp only [hgl]
       have:fin.length*(w.length+1) - G.length=(fin.length*(w.length+1) - (G.length+1))+1:=by omega
       rw [this,lg _ 1];omega) rfl
theorem ins_nodup {M:List Nd} {x:Nd} (h:M.Nodup):(ins x M).Nodup:=by
 unfold ins
 split
 ·exact h
 ·rename_i hx
  rw [zl006]
  exact ⟨h,by simp,fun a ha b hb e=>by simp at hb;subst hb;exact hx (e▸ha)⟩
theorem aaD (x:Nd) (M:List Nd):(ins x M).length<=M.length+1:=by
 unfold ins;split<;>simp
theorem Ky (fin:List Bool) (al:List A) (w:List Int) (G S:List Nd) (hv:okF fin al=true) (hw:w.length<=1024) (hG:∀x,x∈G <-> FS.Good fin al w x) (hGl:G.length<=4194304) (hS:∀x∈S,FS.Good fin al w x) (hSl:S.length<=8388608) :
  HTM Try.prog 55 [.ptr (runT w (aG (·.f) fin.length al) G) 0,.osl 2 S.length (Bq S)] (fun r=>∃L,r=.osl 2 L.length (Bq L)/\(∀x,x∈L <-> Cl fin al w (·∈S) x)/\L.length<=S.length+G.length):=by
 obtain ⟨h1,h2,h3⟩:=bY hv
 have hfl:=dD (·.f) fin.length al
 have hrf:∀i:Nat,i<fin.length->(aG (·.f) fin.length al).getD i []=al.filter fun a=>a.f==(i:Int):=fun i hi=>kV _ _ hi
 generalize hLF:aG (·.f) fin.length al=LF at hfl hrf
 refine HTM.of rfl af7 (aZ rfl) (⟨[(0,.ptr (runT w LF G) 0),(1,.ref 0 [] 2 0 S.length)],[(0,.osl 2 S.length (Bq S))],1⟩:St) rfl ?_
 unfold c55
 simp only [runT]
 refine zF ⟨?_⟩
 refine aI [0,1,5,14,15,16] (fun s:Nat×List Nd=>s.1<=S.length/\s.2.Nodup/\s.2.length<=s.1/\∀x,x∈s.2 <-> x∈S.take s.1)
  (fun s=>⟨[(0,.ptr [.sl w.length (HL.ints w),.sl LF.length (bF LF),.rmap ⟨.ints 2,none⟩ (G.map pk) (qC G.length)] 0),(1,.ref 0 [] 2 0 S.length),(5,.mref 1 []),(14,.ref 0 [] 2 0 S.length),(15,.int .i64 S.length),(16,.int .i64 s.1)],[(0,.osl 2 S.length (Bq S)),(1,.omap ⟨.ints 2,none⟩ (s.2.map pk) (qC s.2.length))],2⟩)
  (fun s=>S.length - s.1) (0,[]) ⟨by simp,by simp,by simp,by simp⟩ rfl ?_
 rintro ⟨k,M⟩ ⟨hk,hM,hMl,hMm⟩
 simp only at hk hM hMl hMm ⊢
 by_cases hkl:k<S.length
 ·have htk:=bK hkl
  refine zF ⟨?_⟩
  refine aP [0,1,5,14,15,16] (k+1,ins (S.getD k default) M) ⟨hkl,ins_nodup hM,by have:=aaD (S.getD k default) M;simp only;omega,fun x=>?_⟩ dL rfl
  simp only [mem_ins,htk,zl003,zl009,hMm]
  exact or_comm
 ·obtain rfl:k=S.length:=by omega
  rw [fK] at hMm
  have hwi:=WI.start (fin:=fin) (al:=al) (w:=w) hM hMm
  refine zF ⟨?_⟩
  refine aI [0,1,5,8] (fun s:Nat×List Nd×List Nd=>WI fin al w S s.1 s.2.1 s.2.2/\s.1<=s.2.1.length)
   (fun s=>⟨[(0,.ptr [.sl w.length (HL.ints w),.sl LF.length (bF LF),.rmap ⟨.ints 2,none⟩ (G.map pk) (qC G.length)] 0),(1,.ref 0 [] 2 0 s.2.1.length),(5,.mref 1 []),(8,.int .i64 s.1)],[(0,.osl 2 s.2.1.length (Bq s.2.1)),(1,.omap ⟨.ints 2,none⟩ (s.2.2.map pk) (qC s.2.2.length))],2⟩)
   (fun s=>(G.length - s.2.2.length)+(s.2.1.length - s.1)) (0,S,M) ⟨hwi,by simp⟩ rfl ?_
  rintro ⟨i,L,M⟩ ⟨hwi,hil⟩
  simp only at hwi hil ⊢
  have hcard:=hwi.card hG hS
  have hlen:=hwi.len
  by_cases hi:i<L.length
  ·have hvm:L.getD i default∈L:=by rw [bH,bM hi];exact gy _
   have hvg:=ww hS (hwi.sub _ hvm)
   obtain ⟨g1,g2,g3,g4⟩:=kX (fun a ha=>by have:=cu hv ha;omega) hvg
   have hrow:=hrf (L.getD i default).1.toNat (by omega)
   rw [show (((L.getD i default).1.toNat:Nat):Int)=(L.getD i default).1 by omega] at hrow
   have hrl:(LF.getD (L.getD i default).1.toNat []).length<=al.length:=by rw [hrow];exact List.length_filter_le _ _
   have hwj:=WI.begin (G:=G) (R:=LF.getD (L.getD i default).1.toNat []) hwi hi
   refine zF ⟨?_⟩
   refine bG ah ah (fun _ _ _=>False) ?_
   refine zF ⟨?_⟩
   generalize hR:LF.getD (L.getD i default).1.toNat []=R at hrow hrl hwj
   generalize hve:L.getD i default=v at hrow hwj g1 g2 g3 g4
   refine aI [0,1,5,8,39,40,41] (fun s:Nat×List Nd×List Nd=>s.1<=R.length/\WJ fin al w G S i v R s.1 s.2.1 s.2.2/\s.2.1.length+M.length=L.length+s.2.2.length/\M.length<=s.2.2.length)
    (fun s=>⟨[(0,.ptr [.sl w.length (HL.ints w),.sl LF.length (bF LF),.rmap ⟨.ints 2,none⟩ (G.map pk) (qC G.length)] 0),(1,.ref 0 [] 2 0 s.2.1.length),(5,.mref 1 []),(8,.int .i64 i),(39,.sl R.length (recs aC R)),(40,.int .i64 R.length),(41,.int .i64 s.1)],[(0,.osl 2 s.2.1.length (Bq s.2.1)),(1,.omap ⟨.ints 2,none⟩ (s.2.2.map pk) (qC s.2.2.length))],2⟩)
    (fun s=>R.length - s.1) (0,L,M) ⟨by simp,hwj,by simp,by simp⟩ rfl ?_
   rintro ⟨k,L',M'⟩ ⟨hk,hwj,hm1,hm2⟩
   simp only at hk hwj hm1 hm2 ⊢
   have hcard':=hwj.wi.card hG hS
   have hlen':=hwj.wi.len
   have hat:=hwj.at_
   have hil':=hwj.lt
   by_cases hkl:k<R.length
   ·have hnx:=RG w LF G (R.getD k default) v.2 g3 hw g4
    have hsk:=hwj.skip hkl
    have had:=fun y=>hwj.add hG hrow g3 hkl (y:=y)
    obtain ⟨y,b,hy⟩:∃y b,ja w G (R.getD k default) v.2=(y,b):=⟨_,_,rfl⟩
    rw [hy] at hnx hsk had
    simp only [runT,aC] at hnx
    obtain ⟨y1,y2⟩:=y
    cases b with
    | false =>
     refine zF ⟨?_⟩
     refine bG ah ah (fun _ _ r=>r=.tup [pT (y1,y2),.bool false]) ?_
     refine eH @hat ⟨?_⟩
     refine bI ay aK hnx ⟨_,rfl,rfl⟩ ?_
     rintro _ rfl -
     simp only [pT,pC]
     refine zG ⟨?_⟩
     refine zF ⟨?_⟩
     exact aP [0,1,5,8,39,40,41] (k+1,L',M') ⟨hkl,hsk (fun _ _ h=>by simp at h),hm1,hm2⟩ dL rfl
    | true =>
     by_cases ho:(R.getD k default).o = -1
     ·by_cases hmem:(y1,y2)∈M'
      ·have hdm:decide ((y1,y2)∈M')=true:=decide_eq_true hmem
       refine zF ⟨?_⟩
       refine bG ah ah (fun _ _ r=>r=.tup [pT (y1,y2),.bool true]) ?_
       refine eH @hat ⟨?_⟩
       refine bI ay aK hnx ⟨_,rfl,rfl⟩ ?_
       rintro _ rfl -
       simp only [pT,pC]
       refine zG ⟨?_⟩
       refine eH @hdm ⟨?_⟩
       exact aP [0,1,5,8,39,40,41] (k+1,L',M') ⟨hkl,hsk (fun _ y h=>by simp only [jR,and_true] at h;rw [<- h];exact (hwj.wi.mem _).1 hmem),hm1,hm2⟩ dL rfl
      ·have hdm:decide ((y1,y2)∈M')=false:=decide_eq_false hmem
       have hins:ins (y1,y2) M'=M'++[(y1,y2)]:=by unfold ins;rw [if_neg hmem]
       have had':=had (y1,y2) ho rfl (fun h=>hmem ((hwj.wi.mem _).2 h))
       have hl1:(L'++[(y1,y2)]).length=L'.length+1:=by simp
       have hl2:(M'++[(y1,y2)]).length=M'.length+1:=by simp
       refine zF ⟨?_⟩
       refine bG ah ah (fun _ _ r=>r=.tup [pT (y1,y2),.bool true]) ?_
       refine eH @hat ⟨?_⟩
       refine bI ay aK hnx ⟨_,rfl,rfl⟩ ?_
       rintro _ rfl -
       simp only [pT,pC]
       refine zG ⟨?_⟩
       refine eH (zA @hdm @hins) ⟨?_⟩
       exact aP [0,1,5,8,39,40,41] (k+1,L'++[(y1,y2)],M'++[(y1,y2)]) ⟨hkl,had',by simp only [hl1,hl2];omega,by simp only [hl2];omega⟩ dL (by simp only [hl1];rfl)
     ·
      refine zF ⟨?_⟩
      refine bG ah ah (fun _ _ r=>r=.tup [pT (y1,y2),.bool true]) ?_
      refine eH @hat ⟨?_⟩
      refine bI ay aK hnx ⟨_,rfl,rfl⟩ ?_
      rintro _ rfl -
      simp only [pT,pC]
      refine zG ⟨?_⟩
      refine zF ⟨?_⟩
      exact aP [0,1,5,8,39,40,41] (k+1,L',M') ⟨hkl,hsk (fun h=>absurd h ho),hm1,hm2⟩ dL rfl
   ·obtain rfl:k=R.length:=by omega
    have hd:=hwj.done hG hrow g3
    refine zF ⟨?_⟩
    exact aP [0,1,5,8] (i+1,L',M') ⟨hd,by simp only;omega⟩ dL rfl
  ·have hdone:=hwi.done (by omega)
   refine zF ⟨?_⟩
   refine ae ?_
   exact ⟨L,rfl,hdone,by omega⟩
end Go.Proofs.Ytlbdmpjnmfmnfaa
end
