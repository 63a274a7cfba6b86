import Derived.Test.YtlbdmpjnmfmnfaaFsW
import Derived.Test.YtlbdmpjnmfmnfaaFs3
import Derived.Test.YtlbdmpjnmfmnfaaHlW
set_option linter.unusedSimpArgs false
set_option linter.unusedVariables false
set_option maxHeartbeats 8000000
section
namespace Go.Proofs.Ytlbdmpjnmfmnfaa
open Go.RowKit Go.HL Go.FS
theorem acA {fin:List Bool} {al:List A} (h:okF fin al=true):∀a∈al,0<=a.f/\a.f<fin.length:=fun a ha=>⟨(gu h ha).1,(gu h ha).2.1⟩
theorem TQ (ll:List (List A)) {n:Nat} (h:ll.length=n):stripL (win (dV ll) 0 (n*1))=dH ll:=by
 rw [<- nO,win,if_pos ⟨rfl,by rw [Ac];omega⟩]
theorem VP (l:List Nd) (v:Nd):(BP (l++[v])).take (l.length*2)=BP l:=by
 rw [show BP (l++[v])=BP l++pC v by simp [recs],List.take_left' (Rz l)]
theorem VJ {w:List Int} {y:Nd} {R:List A} {k:Nat} (td:List Nd) (h:k<R.length):td++(R.take (k+1)).filterMap (ny w y)=(td++(R.take k).filterMap (ny w y))++(ny w y (R.getD k default)).toList:=by
 rw [bY h,List.filterMap_append,tZ]
 generalize R.getD k default=a
 cases hp:ny w y a<;>simp [hp]
theorem Tq {α:Type} (l:List α) (v d:α) {i:Nat} (h:i=l.length):(l++[v]).getD i d=v:=by subst h;simp
def ab2 (w:List Int) (ll:List (List A)) (G:List Nd):HV:=.optr [.sl w.length (HL.ints w),.osl 1 ll.length (dV ll),.omap ⟨.ints 2,none⟩ (G.map pk) (qh G.length)]
theorem Vw (fin:List Bool) (al:List A) (w:List Int) (hv:okF fin al=true) (hw:w.length<=1024):HT Try.prog 54 [.agg (dR fin al),.sl w.length (HL.ints w)] (fun r=>∃G,r=ab2 w (aT (·.f) fin.length al) G/\G.Nodup/\∀x,x∈G <-> FS.Good fin al w x):=by
 obtain ⟨h1,h2,h3⟩:=lF hv
 refine HT.of rfl afi (bF rfl) ?_
 unfold c54
 simp only [ay,Nat.reduceAdd,dR,fU]
 refine zF ⟨?_⟩
 refine aX aG bz (J6 fin al hv) ?_
 rintro _ rfl
 refine zG ⟨?_⟩
 have hfl:=iw (·.f) fin.length al
 generalize hLF:aT (·.f) fin.length al=LF at hfl
 refine zF ⟨?_⟩
 refine Zr bP af ak jI uI (by rfl) (by simp only [tV,List.cons_append,List.nil_append,List.append_nil,dP,uG,if_true,if_false,reduceIte];try rfl) ?_
 refine zF ⟨?_⟩
 rw [<- Gu (·.t)]
 refine aF [1,2,5,6,26,27,28] (fun k:Nat=>k<=al.length)
  (fun k=>⟨[(1,.sl w.length (HL.ints w)),(2,.pref 0 [] 0),(5,.pref 1 [] 0),(6,.ref 2 [] 1 0 fin.length),(26,.sl al.length (recs aC al)),(27,.int .i64 al.length),(28,.int .i64 k)],[(0,.optr [.sl fin.length (HL.bools fin),.sl al.length (recs aC al)]),(1,.optr [.sl w.length (HL.ints w),.osl 1 fin.length (dV LF),.omap ⟨.ints 2,none⟩ [] []]),(2,.osl 1 fin.length (dV (aT (·.t) fin.length (al.take k))))],3⟩)
  (fun k=>al.length - k) 0 (by omega) rfl ?_
 intro k hk
 by_cases hkl:k<al.length
 ·have ha:=gu hv (lq hkl)
  have hlen:=iw (·.t) fin.length (al.take k)
  have hrow:((aT (·.t) fin.length (al.take k)).getD (al.getD k default).t.toNat []).length<=8192:=sU He (by simp;omega)
  have hst:=E8 (p:=(·.t)) (n:=fin.length) (l:=al.take k) (a:=al.getD k default) (j:=(al.getD k default).t.toNat) (by omega)
  rw [<- bY hkl] at hst
  have hro:=IK (aT (·.t) fin.length (al.take k)) (al.getD k default).t.toNat ((aT (·.t) fin.length (al.take k)).getD (al.getD k default).t.toNat []++[al.getD k default]) .dead (n:=((aT (·.t) fin.length (al.take k)).getD (al.getD k default).t.toNat []).length+1) (by simp)
  rw [hst] at hro
  refine zF ⟨?_⟩
  refine aP 51 [1,2,5,6,8,26,27,28] ⟨[(1,.sl w.length (HL.ints w)),(2,.pref 0 [] 0),(5,.pref 1 [] 0),(6,.ref 2 [] 1 0 fin.length),(8,.ptr (aC (al.getD k default)) 0),(26,.sl al.length (recs aC al)),(27,.int .i64 al.length),(28,.int .i64 k)],[(0,.optr [.sl fin.length (HL.bools fin),.sl al.length (recs aC al)]),(1,.optr [.sl w.length (HL.ints w),.osl 1 fin.length (dV LF),.omap ⟨.ints 2,none⟩ [] []]),(2,.osl 1 fin.length (dV (aT (·.t) fin.length (al.take k))))],3⟩ rfl ?_
  unfold aat
  refine jR [8] [6] aA aA (fun _ _ _=>False) (by simp [au,HV.deep,aQ,aC]) (by simp [au,HV.deep,aQ]) ?_
  simp only [aC]
  refine fP @hro ⟨?_⟩
  exact aV [1,2,5,6,26,27,28] (k+1) hkl (by omega) rfl
 ·obtain rfl:k=al.length:=by omega
  rw [ig]
  refine zF ⟨?_⟩
  refine aX aG bz (IL fin (by omega)) ?_
  rintro _ rfl
  refine zG ⟨?_⟩
  have hfin:=Gw fin fin.length
  have hmf:=fun p=>mem_finL (fin:=fin) (p:=p)
  generalize hFL:wo fin fin.length=fl at hfin hmf
  have htl:=iw (·.t) fin.length al
  have hrt:∀i:Nat,i<fin.length->(aT (·.t) fin.length al).getD i []=al.filter fun a=>a.t==(i:Int):=fun i hi=>nH _ _ hi
  generalize hLT:aT (·.t) fin.length al=LT at htl hrt
  refine zF ⟨?_⟩
  refine aP 2 [1,5,6,9,47,48,49] ⟨[(1,.sl w.length (HL.ints w)),(5,.pref 0 [] 0),(6,.sl fin.length (dH LT)),(9,.ref 1 [] 2 0 0),(47,.ref 2 [] 1 0 fl.length),(48,.int .i64 fl.length),(49,.int .i64 0)],[(0,.optr [.sl w.length (HL.ints w),.osl 1 fin.length (dV LF),.omap ⟨.ints 2,none⟩ [] []]),(1,.osl 2 0 []),(2,.osl 1 fl.length (HL.ints fl))],3⟩ (by rw [<- TQ LT htl];rfl) ?_
  refine aF [1,5,6,9,47,48,49] (fun k:Nat=>k<=fl.length)
   (fun k=>⟨[(1,.sl w.length (HL.ints w)),(5,.pref 0 [] 0),(6,.sl fin.length (dH LT)),(9,.ref 1 [] 2 0 k),(47,.ref 2 [] 1 0 fl.length),(48,.int .i64 fl.length),(49,.int .i64 k)],[(0,.optr [.sl w.length (HL.ints w),.osl 1 fin.length (dV LF),.omap ⟨.ints 2,none⟩ [] []]),(1,.osl 2 k (BP ((fl.take k).map fun p=>(p,(w.length:Int))))),(2,.osl 1 fl.length (HL.ints fl))],3⟩)
   (fun k=>fl.length - k) 0 (by omega) rfl ?_
  intro k hk
  by_cases hkl:k<fl.length
  ·have htk:=bY hkl
   have hpl:((fl.take k).map fun p=>(p,(w.length:Int))).length=k:=by simp;omega
   have hps2:((fl.take k).map fun p=>(p,(w.length:Int)))++[(fl.getD k 0,(w.length:Int))]=(fl.take (k+1)).map fun p=>(p,(w.length:Int)):=by rw [htk,oW];rfl
   generalize (fl.take k).map (fun p=>(p,(w.length:Int)))=tk at hpl hps2
   refine zF ⟨?_⟩
   exact aV [1,5,6,9,47,48,49] (k+1) hkl (by omega) (by rw [<- hps2];rfl)
  ·obtain rfl:k=fl.length:=by omega
   rw [ig]
   have hs:=SI.start (al:=al) (w:=w) hmf
   have hpl:(fl.map fun p=>(p,(w.length:Int))).length=fl.length:=by simp
   generalize fl.map (fun p=>(p,(w.length:Int)))=td0 at hs hpl
   rw [<- hpl]
   refine zF ⟨?_⟩
   refine aF [1,5,6,9] (fun s:List Nd×List Nd=>SI fin al w s.1 s.2/\s.2.length<=fl.length+s.1.length*al.length)
    (fun s=>⟨[(1,.sl w.length (HL.ints w)),(5,.pref 0 [] 0),(6,.sl fin.length (dH LT)),(9,.ref 1 [] 2 0 s.2.length)],[(0,.optr [.sl w.length (HL.ints w),.osl 1 fin.length (dV LF),.omap ⟨.ints 2,none⟩ (s.1.map pk) (qh s.1.length)]),(1,.osl 2 s.2.length (BP s.2))],2⟩)
    (fun s=>(fin.length*(w.length+1) - s.1.length)*(al.length+1)+s.2.length) ([],td0) ⟨hs,by simp;omega⟩ rfl ?_
   rintro ⟨G,td⟩ ⟨hsi,htd⟩
   simp only at hsi htd ⊢
   have hcard:=BD hsi.nodup fun x hx=>(hsi.good x (by simp [hx])).2
   have hb1:fin.length*(w.length+1)<=2048*1025:=CV h2 (by omega)
   have hb2:G.length*al.length<=2048*1025*8192:=CV (by omega) h3
   rcases List.eq_nil_or_concat td with rfl|⟨td',v,rfl⟩
   ·refine zF ⟨?_⟩
    refine ae ?_
    exact ⟨G,by rw [ab2,hfl];rfl,hsi.nodup,hsi.done⟩
   ·rw [List.concat_eq_append] at hsi htd ⊢
    have hsn:(td'++[v]).length=td'.length+1:=by simp
    have hv1:=(hsi.good v (by simp)).2
    have hgv:(td'++[v]).getD td'.length default=v:=Tq _ _ _ rfl
    have hz:(((td'.length+1:Nat):Int) - 1).toNat=td'.length:=by omega
    rw [hsn] at htd ⊢
    refine fP (zA @hz @hgv) ⟨?_⟩
    refine Gq 9 [1,5,6,9,12] ⟨[(1,.sl w.length (HL.ints w)),(5,.pref 0 [] 0),(6,.sl fin.length (dH LT)),(9,.ref 1 [] 2 0 td'.length),(12,.pref 2 [] 0)],[(0,.optr [.sl w.length (HL.ints w),.osl 1 fin.length (dV LF),.omap ⟨.ints 2,none⟩ (G.map pk) (qh G.length)]),(1,.osl 2 td'.length (BP td')),(2,.optr [.int .i64 v.1,.int .i64 v.2])],3⟩ rfl rfl (by omega) (NI _) (by decide) (by rw [hz,VP];rfl) ?_
    obtain ⟨v1,v2⟩:=v
    by_cases hG:(v1,v2)∈G
    ·have hd:decide ((v1,v2)∈G)=true:=decide_eq_true hG
     refine bJ aA aA (fun _ _ _=>False) ?_
     refine fP @hd ⟨?_⟩
     exact aV [1,5,6,9] (G,td') ⟨hsi.skip hG,by simp only;omega⟩ iQ rfl
    ·have hd:decide ((v1,v2)∈G)=false:=decide_eq_false hG
     have hins:ins (v1,v2) G=G++[(v1,v2)]:=by unfold ins;rw [if_neg hG]
     have hgl:(G++[(v1,v2)]).length=G.length+1:=by simp
     have hst:=hsi.step (fun a ha=>acA hv a ha) hG
     have hcard':=BD hst.nodup fun x hx=>(hst.good x (by simp only [zl002] at hx ⊢;exact .inl hx)).2
     rw [hgl] at hcard'
     obtain ⟨g1,g2,g3,g4⟩:=hv1
     simp only at g1 g2 g3 g4
     have hrow:=hrt v1.toNat (by omega)
     rw [show ((v1.toNat:Nat):Int)=v1 by omega] at hrow
     have hrl:(LT.getD v1.toNat []).length<=al.length:=by rw [hrow];exact List.length_filter_le _ _
     have hrm:∀k,k<(LT.getD v1.toNat []).length->(LT.getD v1.toNat []).getD k default∈al:=fun k hk=>by
      have:=lq hk
      rw [hrow] at this ⊢
      exact (zl058.1 this).1
     rw [<- hrow] at hst
     generalize hR:LT.getD v1.toNat []=R at hrl hrm hst
     refine bJ aA aA (fun _ _ _=>False) ?_
     refine fP @hd ⟨?_⟩
     refine bJ aA aA (fun _ _ _=>False) ?_
     refine fP (zA @hins @hR) ⟨?_⟩
     refine aF [1,5,6,9,12,90,91,92] (fun k:Nat=>k<=R.length)
      (fun k=>⟨[(1,.sl w.length (HL.ints w)),(5,.pref 0 [] 0),(6,.sl fin.length (dH LT)),(9,.ref 1 [] 2 0 (td'++(R.take k).filterMap (ny w (v1,v2))).length),(12,.pref 2 [] 0),(90,.sl R.length (recs aC R)),(91,.int .i64 R.length),(92,.int .i64 k)],[(0,.optr [.sl w.length (HL.ints w),.osl 1 fin.length (dV LF),.omap ⟨.ints 2,none⟩ ((G++[(v1,v2)]).map pk) (qh (G++[(v1,v2)]).length)]),(1,.osl 2 (td'++(R.take k).filterMap (ny w (v1,v2))).length (BP (td'++(R.take k).filterMap (ny w (v1,v2))))),(2,.optr [.int .i64 v1,.int .i64 v2])],3⟩)
      (fun k=>R.length - k) 0 (by omega) (by simp only [List.take_zero,List.filterMap_nil,List.append_nil];rfl) ?_
     intro k hk
     by_cases hkl:k<R.length
     ·have ha:=gu hv (hrm k hkl)
      have hT:=VJ (w:=w) (y:=(v1,v2)) td' hkl
      have hTl:(td'++(R.take k).filterMap (ny w (v1,v2))).length<=td'.length+k:=by
       have:=List.length_filterMap_le (ny w (v1,v2)) (R.take k)
       rw [eu] at this
       rw [dQ];omega
      generalize (td'++(R.take k).filterMap (ny w (v1,v2)))=T at hT hTl
      by_cases hi:(R.getD k default).i = -1
      ·have hp:ny w (v1,v2) (R.getD k default)=some ((R.getD k default).f,v2):=by simp only [ny,if_pos hi]
       have hTl2:(T++[((R.getD k default).f,v2)]).length=T.length+1:=by simp
       rw [hp] at hT
       refine zF ⟨?_⟩
       exact aV [1,5,6,9,12,90,91,92] (k+1) hkl (by omega) (by simp only [hT,Et,hTl2];rfl)
      ·by_cases h0:0<v2
       ·by_cases he:w.getD (v2 - 1).toNat 0=(R.getD k default).i
        ·have hp:ny w (v1,v2) (R.getD k default)=some ((R.getD k default).f,v2 - 1):=by simp only [ny,if_neg hi];exact if_pos ⟨h0,he⟩
         have hTl2:(T++[((R.getD k default).f,v2 - 1)]).length=T.length+1:=by simp
         rw [hp] at hT
         refine zF ⟨?_⟩
         refine bJ aA aA (fun _ _ _=>False) ?_
         refine zF ⟨?_⟩
         exact aV [1,5,6,9,12,90,91,92] (k+1) hkl (by omega) (by simp only [hT,Et,hTl2];rfl)
        ·have hp:ny w (v1,v2) (R.getD k default)=none:=by simp only [ny,if_neg hi];exact if_neg fun h=>he h.2
         rw [hp] at hT
         refine zF ⟨?_⟩
         refine bJ aA aA (fun _ _ _=>False) ?_
         refine zF ⟨?_⟩
         exact aV [1,5,6,9,12,90,91,92] (k+1) hkl (by omega) (by simp only [hT,Option.toList_none,List.append_nil];rfl)
       ·have hp:ny w (v1,v2) (R.getD k default)=none:=by simp only [ny,if_neg hi];exact if_neg fun h=>h0 h.1
        rw [hp] at hT
        refine zF ⟨?_⟩
        refine bJ aA aA (fun _ _ _=>False) ?_
        refine zF ⟨?_⟩
        exact aV [1,5,6,9,12,90,91,92] (k+1) hkl (by omega) (by simp only [hT,Option.toList_none,List.append_nil];rfl)
     ·obtain rfl:k=R.length:=by omega
      rw [ig]
      have hTl:(td'++R.filterMap (ny w (v1,v2))).length<=td'.length+R.length:=by
       have:=List.length_filterMap_le (ny w (v1,v2)) R
       rw [dQ];omega
      generalize (td'++R.filterMap (ny w (v1,v2)))=T at hst hTl
      refine zF ⟨?_⟩
      exact aV [1,5,6,9] (G++[(v1,v2)],T) ⟨hst,by simp only [hgl,nU,Es];omega⟩ (by
       simp only [hgl]
       have:fin.length*(w.length+1) - G.length=(fin.length*(w.length+1) - (G.length+1))+1:=by omega
       rw [this,nU _ 1];omega) rfl
theorem ins_nodup {M:List Nd} {x:Nd} (h:M.Nodup):(ins x M).Nodup:=by
 unfold ins
 split
 ·exact h
 ·rename_i hx
  rw [zl008]
  exact ⟨h,by simp,fun a ha b hb e=>by simp at hb;subst hb;exact hx (e▸ha)⟩
theorem Z5 (x:Nd) (M:List Nd):(ins x M).length<=M.length+1:=by
 unfold ins;split<;>simp
theorem JR (fin:List Bool) (al:List A) (w:List Int) (G S:List Nd) (hv:okF fin al=true) (hw:w.length<=1024) (hG:∀x,x∈G <-> FS.Good fin al w x) (hGl:G.length<=4194304) (hS:∀x∈S,FS.Good fin al w x) (hSl:S.length<=8388608) :
  HTM Try.prog 55 [.ptr (runT w (aT (·.f) fin.length al) G) 0,.osl 2 S.length (BP S)] (fun r=>∃L,r=.osl 2 L.length (BP L)/\(∀x,x∈L <-> Cl fin al w (·∈S) x)/\L.length<=S.length+G.length):=by
 obtain ⟨h1,h2,h3⟩:=lF hv
 have hfl:=iw (·.f) fin.length al
 have hrf:∀i:Nat,i<fin.length->(aT (·.f) fin.length al).getD i []=al.filter fun a=>a.f==(i:Int):=fun i hi=>nH _ _ hi
 generalize hLF:aT (·.f) fin.length al=LF at hfl hrf
 refine HTM.of rfl aeR (bF rfl) (⟨[(0,.ptr (runT w LF G) 0),(1,.ref 0 [] 2 0 S.length)],[(0,.osl 2 S.length (BP S))],1⟩:St) rfl ?_
 unfold c55
 simp only [runT]
 refine zF ⟨?_⟩
 refine aF [0,1,5,14,15,16] (fun s:Nat×List Nd=>s.1<=S.length/\s.2.Nodup/\s.2.length<=s.1/\∀x,x∈s.2 <-> x∈S.take s.1)
  (fun s=>⟨[(0,.ptr [.sl w.length (HL.ints w),.sl LF.length (dH LF),.rmap ⟨.ints 2,none⟩ (G.map pk) (qh G.length)] 0),(1,.ref 0 [] 2 0 S.length),(5,.mref 1 []),(14,.ref 0 [] 2 0 S.length),(15,.int .i64 S.length),(16,.int .i64 s.1)],[(0,.osl 2 S.length (BP S)),(1,.omap ⟨.ints 2,none⟩ (s.2.map pk) (qh s.2.length))],2⟩)
  (fun s=>S.length - s.1) (0,[]) ⟨by simp,by simp,by simp,by simp⟩ rfl ?_
 rintro ⟨k,M⟩ ⟨hk,hM,hMl,hMm⟩
 simp only at hk hM hMl hMm ⊢
 by_cases hkl:k<S.length
 ·have htk:=bY hkl
  refine zF ⟨?_⟩
  refine aV [0,1,5,14,15,16] (k+1,ins (S.getD k default) M) ⟨hkl,ins_nodup hM,by have:=Z5 (S.getD k default) M;simp only;omega,fun x=>?_⟩ iQ rfl
  simp only [mem_ins,htk,zl002,zl009,hMm]
  exact or_comm
 ·obtain rfl:k=S.length:=by omega
  rw [ig] at hMm
  have hwi:=WI.start (fin:=fin) (al:=al) (w:=w) hM hMm
  refine zF ⟨?_⟩
  refine aF [0,1,5,8] (fun s:Nat×List Nd×List Nd=>WI fin al w S s.1 s.2.1 s.2.2/\s.1<=s.2.1.length)
   (fun s=>⟨[(0,.ptr [.sl w.length (HL.ints w),.sl LF.length (dH LF),.rmap ⟨.ints 2,none⟩ (G.map pk) (qh G.length)] 0),(1,.ref 0 [] 2 0 s.2.1.length),(5,.mref 1 []),(8,.int .i64 s.1)],[(0,.osl 2 s.2.1.length (BP s.2.1)),(1,.omap ⟨.ints 2,none⟩ (s.2.2.map pk) (qh s.2.2.length))],2⟩)
   (fun s=>(G.length - s.2.2.length)+(s.2.1.length - s.1)) (0,S,M) ⟨hwi,by simp⟩ rfl ?_
  rintro ⟨i,L,M⟩ ⟨hwi,hil⟩
  simp only at hwi hil ⊢
  have hcard:=hwi.card hG hS
  have hlen:=hwi.len
  by_cases hi:i<L.length
  ·have hvm:L.getD i default∈L:=by rw [bf,bn hi];exact iD _
   have hvg:=QO hS (hwi.sub _ hvm)
   obtain ⟨g1,g2,g3,g4⟩:=Df (fun a ha=>by have:=gu hv ha;omega) hvg
   have hrow:=hrf (L.getD i default).1.toNat (by omega)
   rw [show (((L.getD i default).1.toNat:Nat):Int)=(L.getD i default).1 by omega] at hrow
   have hrl:(LF.getD (L.getD i default).1.toNat []).length<=al.length:=by rw [hrow];exact List.length_filter_le _ _
   have hwj:=WI.begin (G:=G) (R:=LF.getD (L.getD i default).1.toNat []) hwi hi
   refine zF ⟨?_⟩
   refine bJ aA aA (fun _ _ _=>False) ?_
   refine zF ⟨?_⟩
   generalize hR:LF.getD (L.getD i default).1.toNat []=R at hrow hrl hwj
   generalize hve:L.getD i default=v at hrow hwj g1 g2 g3 g4
   refine aF [0,1,5,8,39,40,41] (fun s:Nat×List Nd×List Nd=>s.1<=R.length/\WJ fin al w G S i v R s.1 s.2.1 s.2.2/\s.2.1.length+M.length=L.length+s.2.2.length/\M.length<=s.2.2.length)
    (fun s=>⟨[(0,.ptr [.sl w.length (HL.ints w),.sl LF.length (dH LF),.rmap ⟨.ints 2,none⟩ (G.map pk) (qh G.length)] 0),(1,.ref 0 [] 2 0 s.2.1.length),(5,.mref 1 []),(8,.int .i64 i),(39,.sl R.length (recs aC R)),(40,.int .i64 R.length),(41,.int .i64 s.1)],[(0,.osl 2 s.2.1.length (BP s.2.1)),(1,.omap ⟨.ints 2,none⟩ (s.2.2.map pk) (qh s.2.2.length))],2⟩)
    (fun s=>R.length - s.1) (0,L,M) ⟨by simp,hwj,by simp,by simp⟩ rfl ?_
   rintro ⟨k,L',M'⟩ ⟨hk,hwj,hm1,hm2⟩
   simp only at hk hwj hm1 hm2 ⊢
   have hcard':=hwj.wi.card hG hS
   have hlen':=hwj.wi.len
   have hat:=hwj.at_
   have hil':=hwj.lt
   by_cases hkl:k<R.length
   ·have hnx:=Q9 w LF G (R.getD k default) v.2 g3 hw g4
    have hsk:=hwj.skip hkl
    have had:=fun y=>hwj.add hG hrow g3 hkl (y:=y)
    obtain ⟨y,b,hy⟩:∃y b,kQ w G (R.getD k default) v.2=(y,b):=⟨_,_,rfl⟩
    rw [hy] at hnx hsk had
    simp only [runT,aC] at hnx
    obtain ⟨y1,y2⟩:=y
    cases b with
    | false =>
     refine zF ⟨?_⟩
     refine bJ aA aA (fun _ _ r=>r=.tup [pT (y1,y2),.bool false]) ?_
     refine fP @hat ⟨?_⟩
     refine fG aG bz hnx ⟨_,rfl,rfl⟩ ?_
     rintro _ rfl -
     simp only [pT,pC]
     refine zG ⟨?_⟩
     refine zF ⟨?_⟩
     exact aV [0,1,5,8,39,40,41] (k+1,L',M') ⟨hkl,hsk (fun _ _ h=>by simp at h),hm1,hm2⟩ iQ rfl
    | true =>
     by_cases ho:(R.getD k default).o = -1
     ·by_cases hmem:(y1,y2)∈M'
      ·have hdm:decide ((y1,y2)∈M')=true:=decide_eq_true hmem
       refine zF ⟨?_⟩
       refine bJ aA aA (fun _ _ r=>r=.tup [pT (y1,y2),.bool true]) ?_
       refine fP @hat ⟨?_⟩
       refine fG aG bz hnx ⟨_,rfl,rfl⟩ ?_
       rintro _ rfl -
       simp only [pT,pC]
       refine zG ⟨?_⟩
       refine fP @hdm ⟨?_⟩
       exact aV [0,1,5,8,39,40,41] (k+1,L',M') ⟨hkl,hsk (fun _ y h=>by simp only [jg,and_true] at h;rw [<- h];exact (hwj.wi.mem _).1 hmem),hm1,hm2⟩ iQ rfl
      ·have hdm:decide ((y1,y2)∈M')=false:=decide_eq_false hmem
       have hins:ins (y1,y2) M'=M'++[(y1,y2)]:=by unfold ins;rw [if_neg hmem]
       have had':=had (y1,y2) ho rfl (fun h=>hmem ((hwj.wi.mem _).2 h))
       have hl1:(L'++[(y1,y2)]).length=L'.length+1:=by simp
       have hl2:(M'++[(y1,y2)]).length=M'.length+1:=by simp
       refine zF ⟨?_⟩
       refine bJ aA aA (fun _ _ r=>r=.tup [pT (y1,y2),.bool true]) ?_
       refine fP @hat ⟨?_⟩
       refine fG aG bz hnx ⟨_,rfl,rfl⟩ ?_
       rintro _ rfl -
       simp only [pT,pC]
       refine zG ⟨?_⟩
       refine fP (zA @hdm @hins) ⟨?_⟩
       exact aV [0,1,5,8,39,40,41] (k+1,L'++[(y1,y2)],M'++[(y1,y2)]) ⟨hkl,had',by simp only [hl1,hl2];omega,by simp only [hl2];omega⟩ iQ (by simp only [hl1];rfl)
     ·
      refine zF ⟨?_⟩
      refine bJ aA aA (fun _ _ r=>r=.tup [pT (y1,y2),.bool true]) ?_
      refine fP @hat ⟨?_⟩
      refine fG aG bz hnx ⟨_,rfl,rfl⟩ ?_
      rintro _ rfl -
      simp only [pT,pC]
      refine zG ⟨?_⟩
      refine zF ⟨?_⟩
      exact aV [0,1,5,8,39,40,41] (k+1,L',M') ⟨hkl,hsk (fun h=>absurd h ho),hm1,hm2⟩ iQ rfl
   ·obtain rfl:k=R.length:=by omega
    have hd:=hwj.done hG hrow g3
    refine zF ⟨?_⟩
    exact aV [0,1,5,8] (i+1,L',M') ⟨hd,by simp only;omega⟩ iQ rfl
  ·have hdone:=hwi.done (by omega)
   refine zF ⟨?_⟩
   refine ae ?_
   exact ⟨L,rfl,hdone,by omega⟩
end Go.Proofs.Ytlbdmpjnmfmnfaa
end
