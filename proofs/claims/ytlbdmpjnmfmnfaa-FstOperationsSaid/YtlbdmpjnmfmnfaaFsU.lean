import Derived.Test.YtlbdmpjnmfmnfaaFsN
import Derived.Test.YtlbdmpjnmfmnfaaFsB
set_option linter.unusedSimpArgs false
set_option linter.unusedVariables false
set_option maxHeartbeats 8000000
section
namespace Go.Proofs.Ytlbdmpjnmfmnfaa
open Go.RowKit Go.HL Go.FS
section
variable {fin:List Bool} {al:List A} {w:List Int}
theorem GB.start {n:Nat} {N:Nat} (h:n*(w.length+1)=N):GB n w [] (List.replicate N false) :=
 ⟨by simp [h],fun x _=>by
  have:(List.replicate N false).getD (cd w.length x).toNat false=false:=by
   rw [bH,JK];split<;>rfl
  rw [this];rfl⟩
theorem GB.add {n:Nat} {G:List Nd} {gb:List Bool} (h:GB n w G gb) {y:Nd} (hy:Ah n w y):GB n w (G++[y]) (gb.set (cd w.length y).toNat true):=by
 refine ⟨by rw [List.length_set];exact h.len,fun x hx=>?_⟩
 have hyl:=(uQ hy).2
 rw [<- h.len] at hyl
 rw [bH,vg]
 by_cases e:(cd w.length y).toNat=(cd w.length x).toNat
 ·have h1:=(uQ hx).1
  have h2:=(uQ hy).1
  have:x=y:=abO hx hy (by omega)
  subst this
  simp [hyl]
 ·have:x≠y:=fun e2=>e (by rw [e2])
  rw [if_neg e,<- bH,h.at_ x hx]
  simp [this]
structure RI (fin:List Bool) (al:List A) (w:List Int) (i:Nat) (L:List Nd):Prop where
 nd:L.Nodup
 good:∀x∈L,FS.Good fin al w x/\Ah fin.length w x
 fin:∀p,isFin fin p->(p,(w.length:Int))∈L
 pre:∀j,j<i->∀a∈al,a.t=(L.getD j default).1->∀x,kG w (L.getD j default) a=some x->x∈L
structure RJ (fin:List Bool) (al:List A) (w:List Int) (i:Nat) (v:Nd) (R:List A) (k:Nat) (L:List Nd):Prop where
 ri:RI fin al w i L
 lt:i<L.length
 at_:L.getD i default=v
 row:∀a∈R.take k,∀x,kG w v a=some x->x∈L
theorem RI.begin {L:List Nd} {i:Nat} {R:List A} (h:RI fin al w i L) (hi:i<L.length):RJ fin al w i (L.getD i default) R 0 L:=⟨h,hi,rfl,by simp⟩
theorem RJ.mem {L:List Nd} {i k:Nat} {v:Nd} {R:List A} (h:RJ fin al w i v R k L):v∈L:=by
 rw [<- h.at_,bH,bM h.lt];exact gy _
theorem RJ.skip {L:List Nd} {i k:Nat} {v:Nd} {R:List A} (h:RJ fin al w i v R k L) (hk:k<R.length) (hs:∀x,kG w v (R.getD k default)=some x->x∈L):RJ fin al w i v R (k+1) L:=by
 refine ⟨h.ri,h.lt,h.at_,fun a ha=>?_⟩
 rw [bK hk] at ha
 rcases zl003.1 ha with ha|ha
 ·exact h.row a ha
 ·simp only [zl009] at ha;subst ha;exact hs
theorem ZW (hk:∀a∈al,0<=a.f/\a.f<fin.length) {a:A} (ha:a∈al) {v x:Nd} (hv:Ah fin.length w v) (hx:kG w v a=some x):Ah fin.length w x:=by
 have:=hk a ha
 obtain ⟨_,_,g1,g2⟩:=hv
 unfold kG at hx
 split at hx
 ·cases hx;exact ⟨this.1,this.2,g1,g2⟩
 ·split at hx
  ·cases hx;exact ⟨this.1,this.2,by simp only;omega,by simp only;omega⟩
  ·cases hx
theorem RJ.add (hk:∀a∈al,0<=a.f/\a.f<fin.length) {L:List Nd} {i k:Nat} {v:Nd} {R:List A} (hR:R=al.filter fun a=>a.t==v.1) (h:RJ fin al w i v R k L) (hkl:k<R.length) {x:Nd} (hx:kG w v (R.getD k default)=some x) (hn:x ∉ L):RJ fin al w i v R (k+1) (L++[x]):=by
 have hmem:R.getD k default∈al/\(R.getD k default).t=v.1:=by
  have:=fJ hkl
  generalize R.getD k default=a at this
  rw [hR] at this
  simpa using this
 have hv:=h.ri.good v h.mem
 obtain ⟨o,hm⟩:=(Ku hv.2).2 ⟨_,hmem.1,hmem.2,hx⟩
 have hgd:∀j,j<L.length->(L++[x]).getD j default=L.getD j default:=fun j hj=>D8 hj
 have hlt:=h.lt
 refine ⟨⟨?_,fun y hy=>?_,fun p hp=>by simp [h.ri.fin p hp],fun j hj a ha hat y hy=>?_⟩,by simp;omega,by rw [hgd _ hlt];exact h.at_,fun a ha y hy=>?_⟩
 ·rw [zl006]
  exact ⟨h.ri.nd,by simp,fun a ha b hb e=>by simp only [zl009] at hb;subst hb;subst e;exact hn ha⟩
 ·rcases zl003.1 hy with hy|hy
  ·exact h.ri.good y hy
  ·simp only [zl009] at hy
   subst hy
   exact ⟨.mv hm hv.1,ZW hk hmem.1 hv.2 hx⟩
 ·rw [hgd j (by omega)] at hat hy
  simp [h.ri.pre j hj a ha hat y hy]
 ·rw [bK hkl] at ha
  rcases zl003.1 ha with ha|ha
  ·simp [h.row a ha y hy]
  ·simp only [zl009] at ha
   subst ha
   rw [hx] at hy
   cases hy
   simp
theorem RJ.done {L:List Nd} {i:Nat} {v:Nd} {R:List A} (hR:R=al.filter fun a=>a.t==v.1) (h:RJ fin al w i v R R.length L):RI fin al w (i+1) L:=by
 refine ⟨h.ri.nd,h.ri.good,h.ri.fin,fun j hj a ha hat x hx=>?_⟩
 by_cases e:j=i
 ·subst e
  rw [h.at_] at hat hx
  refine h.row a ?_ x hx
  rw [fK,hR]
  simp [ha,hat]
 ·exact h.ri.pre j (by omega) a ha hat x hx
theorem RI.done {L:List Nd} {i:Nat} (h:RI fin al w i L) (hi:L.length<=i) (x:Nd):x∈L <-> FS.Good fin al w x:=by
 constructor
 ·intro hx;exact (h.good x hx).1
 ·intro hg
  induction hg with
  | fin hf=>exact h.fin _ hf
  | @mv x y o hm _ ih =>
   obtain ⟨a,ha,hat,hp⟩:=(Ku (h.good y ih).2).1 ⟨o,hm⟩
   obtain ⟨j,hj,he⟩:=BZ ih
   have e:L.getD j default=y:=by rw [bH,bM hj];exact he
   exact h.pre j (by omega) a ha (by rw [e];exact hat) x (by rw [e];exact hp)
theorem RI.start {L:List Nd} (h:L=(jA fin fin.length).map fun p=>(p,(w.length:Int))):RI fin al w 0 L:=by
 subst h
 refine ⟨?_,fun x hx=>?_,fun p hp=>zl031.2 ⟨p,mem_finL.2 hp,rfl⟩,fun j hj=>by omega⟩
 ·have h1:(jA fin fin.length).Nodup:=by
   unfold jA
   rw [List.Nodup,List.pairwise_map]
   refine List.Pairwise.filter _ ?_
   exact List.nodup_range.imp fun h e=>h (by omega)
  rw [List.Nodup,List.pairwise_map]
  exact List.Pairwise.imp (fun h e=>h (by simpa using e)) h1
 ·obtain ⟨p,hp,rfl⟩:=zl031.1 hx
  have hf:=mem_finL.1 hp
  exact ⟨.fin hf,hf.1,qY hf,by simp,by simp⟩
def Lm (fin:List Bool) (w:List Int) (k:Nat):List Nd:=(jA fin k).map fun p=>(p,(w.length:Int))
theorem Yr {k:Nat} (h:fin.getD k false=true):Lm fin w (k+1)=Lm fin w k++[((k:Int),(w.length:Int))]:=by
 unfold Lm;rw [vK,if_pos h];simp
theorem Z7 {k:Nat} (h:fin.getD k false=false):Lm fin w (k+1)=Lm fin w k:=by
 unfold Lm;rw [vK,if_neg (by rw [h];simp)]
theorem Xy (k:Nat):(Lm fin w k).length<=k:=by
 unfold Lm;rw [List.length_map];exact nJ fin k
end
def vZ (w:List Int) (l:List Nd):List HV:=HL.ints (l.map (cd w.length))
theorem ZM (w:List Int) (l:List Nd):(vZ w l).length=l.length:=by simp [vZ,HL.ints]
theorem vX (w:List Int) (l:List Nd) (x:Nd):vZ w l++[.int .i64 (cd w.length x)]=vZ w (l++[x]):=by simp [vZ,HL.ints]
theorem aav (w:List Int) (l:List Nd) {i:Nat} (h:i<l.length):(vZ w l).getD i .dead=.int .i64 (cd w.length (l.getD i default)):=by simp [vZ,HL.ints,h]
theorem YX (w:List Int) (l:List Nd):fH (vZ w l)=true:=HL.ints_cell _
theorem Ei (w:List Int) (l:List Nd):stripL (vZ w l)=vZ w l:=HL.ints_strip _
theorem RD (w:List Int) (l:List Nd):win (vZ w l) 0 l.length=vZ w l:=eG _ (by simp [vZ,HL.ints])
theorem Xw (w:List Int) (l:List Nd):win (vZ w l) 0 (l.length*1)=vZ w l:=eG _ (by simp [vZ,HL.ints])
theorem G7 (w:List Int) (l:List Nd):dm (vZ w l)=true:=HL.ints_noRd _
attribute [go_sem] ZM aav YX Ei RD Xw
theorem JJ {w:List Int} {G:List Nd} {a:A} {z:Int} {y:Nd} (h:ja w G a z=(y,true)):y∈G:=by
 unfold ja at h
 split at h
 ·simp only [jR,decide_eq_true_eq] at h;rw [<- h.1];exact h.2
 ·split at h
  ·simp only [jR,decide_eq_true_eq] at h;rw [<- h.1];exact h.2
  ·simp at h
theorem NT (fin:List Bool) (al:List A) (w:List Int) (G S:List Nd) (gb:List Bool) (hv:okF fin al=true) (hw:w.length<=1024) (hG:∀x,x∈G <-> FS.Good fin al w x) (hb:GB fin.length w G gb) (hS:∀x∈S,FS.Good fin al w x) (hSl:S.length<=1000000000000) :
  HT Try.prog 60 [.agg (Ip w (aG (·.f) fin.length al) gb),.sl S.length (vZ w S)] (fun r=>∃L,r=.osl 1 L.length (vZ w L)/\(∀x,x∈L <-> Cl fin al w (·∈S) x)/\L.Nodup):=by
 obtain ⟨h1,h2,h3⟩:=bY hv
 have hin:∀a∈al,0<=a.f/\a.f<fin.length:=fun a ha=>by have:=cu hv ha;omega
 have hgb:=qm (n:=fin.length) (w:=w) h2 hw
 have hfl:=dD (·.f) fin.length al
 have hrf:∀i:Nat,i<fin.length->(aG (·.f) fin.length al).getD i []=al.filter fun a=>a.f==(i:Int):=fun i hi=>kV _ _ hi
 generalize hLF:aG (·.f) fin.length al=LF at hfl hrf
 obtain ⟨N,hN⟩:∃N,fin.length*(w.length+1)=N:=⟨_,rfl⟩
 have hG0:=GB.start hN
 have hgl:=hb.len
 rw [hN] at hgl hgb
 have hSi:∀x∈S,Ah fin.length w x:=fun x hx=>kX hin (hS x hx)
 refine HT.of rfl afv (aZ rfl) ?_
 unfold c60
 simp only [aA,Nat.reduceAdd,Ip,hgl]
 refine zF ⟨?_⟩
 refine aI [1,2,5,6,7,8] (fun s:Nat×List Bool×List Nd=>s.1<=S.length/\s.2.2.Nodup/\(∀x,x∈s.2.2 <-> x∈S.take s.1)/\GB fin.length w s.2.2 s.2.1)
  (fun s=>⟨[(1,.sl S.length (vZ w S)),(2,.pref 0 [] 0),(5,.int .i64 ((w.length:Int)+1)),(6,.ref 1 [] 1 0 N),(7,.ref 2 [] 1 0 s.2.2.length),(8,.int .i64 s.1)],[(0,.optr [.sl w.length (HL.ints w),.sl LF.length (bF LF),.sl N (HL.bools gb)]),(1,.osl 1 N (HL.bools s.2.1)),(2,.osl 1 s.2.2.length (vZ w s.2.2))],3⟩)
  (fun s=>S.length - s.1) (0,List.replicate N false,[]) ⟨by simp,by simp,by simp,hG0⟩ rfl ?_
 rintro ⟨k,sb,L⟩ ⟨hk,hLn,hLm,hg⟩
 simp only at hk hLn hLm hg ⊢
 have hsl:=hg.len
 rw [hN] at hsl
 have hLi:∀x∈L,Ah fin.length w x:=fun x hx=>hSi x (Es ((hLm x).1 hx))
 have hcard:=kw hLn hLi
 rw [hN] at hcard
 by_cases hkl:k<S.length
 ·have htk:=bK hkl
  have hxm:S.getD k default∈S:=by rw [bH,bM hkl];exact gy _
  have hxi:=hSi _ hxm
  have hxc:=uQ hxi
  rw [hN] at hxc
  have hxg:=hg.at_ _ hxi
  generalize hxe:S.getD k default=x at htk hxm hxi hxc hxg
  by_cases hmem:x∈L
  ·rw [decide_eq_true hmem] at hxg
   refine eH (zA @hxe (zA @hxg @Bool.not_true)) ⟨?_⟩
   exact aP [1,2,5,6,7,8] (k+1,sb,L) ⟨hkl,hLn,fun y=>by rw [htk,zl003,zl009,<- hLm];exact ⟨.inl,fun h=>h.elim id fun e=>e▸hmem⟩,hg⟩ dL rfl
  ·rw [decide_eq_false hmem] at hxg
   have hll:(L++[x]).length=L.length+1:=by simp
   refine eH (zA @hxe (zA @hxg @Bool.not_false)) ⟨?_⟩
   exact aP [1,2,5,6,7,8] (k+1,sb.set (cd w.length x).toNat true,L++[x]) ⟨hkl,by
    rw [zl006]
    exact ⟨hLn,by simp,fun a ha b hb e=>by simp only [zl009] at hb;subst hb;subst e;exact hmem ha⟩,fun y=>by rw [htk,zl003,zl003,zl009,<- hLm],hg.add hxi⟩ dL (by simp only [hll,<- vX];rfl)
 ·obtain rfl:k=S.length:=by omega
  rw [fK] at hLm
  have hwi:WI fin al w S 0 L L:=⟨fun _=>Iff.rfl,hLn,by omega,fun x hx=>.on ((hLm x).1 hx),fun x hx=>(hLm x).2 hx,fun j hj=>absurd hj (Nat.not_lt_zero _)⟩
  refine zF ⟨?_⟩
  refine aI [2,5,6,7,9] (fun s:Nat×List Bool×List Nd=>WI fin al w S s.1 s.2.2 s.2.2/\GB fin.length w s.2.2 s.2.1/\s.1<=s.2.2.length)
   (fun s=>⟨[(2,.pref 0 [] 0),(5,.int .i64 ((w.length:Int)+1)),(6,.ref 1 [] 1 0 N),(7,.ref 2 [] 1 0 s.2.2.length),(9,.int .i64 s.1)],[(0,.optr [.sl w.length (HL.ints w),.sl LF.length (bF LF),.sl N (HL.bools gb)]),(1,.osl 1 N (HL.bools s.2.1)),(2,.osl 1 s.2.2.length (vZ w s.2.2))],3⟩)
   (fun s=>(N - s.2.2.length)+(s.2.2.length - s.1)) (0,sb,L) ⟨hwi,hg,by simp⟩ rfl ?_
  clear hwi hcard hLi hsl hg hLm hLn L sb
  rintro ⟨i,sb,L⟩ ⟨hwi,hg,hil⟩
  simp only at hwi hg hil ⊢
  have hsl:=hg.len
  rw [hN] at hsl
  have hLg:∀x∈L,FS.Good fin al w x:=fun x hx=>ww hS (hwi.sub x hx)
  have hcard:=kw hwi.nd fun x hx=>kX hin (hLg x hx)
  rw [hN] at hcard
  by_cases hi:i<L.length
  ·have hvm:L.getD i default∈L:=by rw [bH,bM hi];exact gy _
   have hvi:=kX hin (hLg _ hvm)
   have hdiv:=DN hvi
   have hmod:=DK hvi
   have hrow:=hrf (L.getD i default).1.toNat (by have:=hvi.2.1;have:=hvi.1;omega)
   rw [show (((L.getD i default).1.toNat:Nat):Int)=(L.getD i default).1 by have:=hvi.1;omega] at hrow
   have hwj:=hwi.begin (G:=G) (R:=LF.getD (L.getD i default).1.toNat []) hi
   generalize hve:L.getD i default=v at hrow hwj hvi hdiv hmod
   generalize hR:LF.getD v.1.toNat []=R at hrow hwj
   have hrl:R.length<=al.length:=by rw [hrow];exact List.length_filter_le _ _
   have hcv:=uQ hvi
   rw [hN] at hcv
   obtain ⟨g1,g2,g3,g4⟩:=hvi
   refine zF ⟨?_⟩
   refine bG ah ah (fun _ _ _=>False) ?_
   refine eH (zA @hve (zA @hdiv @hR)) ⟨?_⟩
   refine aI [2,5,6,7,9,10,11] (fun s:Nat×List Bool×List Nd=>s.1<=R.length/\WJ fin al w G S i v R s.1 s.2.2 s.2.2/\GB fin.length w s.2.2 s.2.1/\L.length<=s.2.2.length)
    (fun s=>⟨[(2,.pref 0 [] 0),(5,.int .i64 ((w.length:Int)+1)),(6,.ref 1 [] 1 0 N),(7,.ref 2 [] 1 0 s.2.2.length),(9,.int .i64 i),(10,.sl R.length (recs aC R)),(11,.int .i64 s.1)],[(0,.optr [.sl w.length (HL.ints w),.sl LF.length (bF LF),.sl N (HL.bools gb)]),(1,.osl 1 N (HL.bools s.2.1)),(2,.osl 1 s.2.2.length (vZ w s.2.2))],3⟩)
    (fun s=>R.length - s.1) (0,sb,L) ⟨by simp,hwj,hg,by simp⟩ rfl ?_
   clear hwj hsl hg hLg hvm
   generalize hL0:L.length=l0 at hcard hi hil
   rintro ⟨k,sb,L'⟩ ⟨hkk,hwj,hg,hlm⟩
   simp only at hkk hwj hg hlm ⊢
   have hsl:=hg.len
   rw [hN] at hsl
   have hLg:∀x∈L',FS.Good fin al w x:=fun x hx=>ww hS (hwj.wi.sub x hx)
   have hcard':=kw hwj.wi.nd fun x hx=>kX hin (hLg x hx)
   rw [hN] at hcard'
   have hat:=hwj.at_
   have hilt:=hwj.lt
   by_cases hkl:k<R.length
   ·have ham:R.getD k default∈al:=by
     have:=fJ hkl
     rw [hrow] at this ⊢
     exact (zl042.1 this).1
    have ha:=cu hv ham
    have hnx:=Ot fin.length w LF G gb (R.getD k default) v.2 g3 hw g4 h2 ⟨ha.2.2.1,ha.2.2.2.1⟩ hb
    have hsk:=hwj.skip hkl
    have had:=fun y=>hwj.add hG hrow g3 hkl (y:=y)
    obtain ⟨y,b,hy⟩:∃y b,ja w G (R.getD k default) v.2=(y,b):=⟨_,_,rfl⟩
    have hnr:vS w G (R.getD k default) v.2=if b then cd w.length y else -1:=by simp only [vS,hy]
    rw [hy] at hsk had
    rw [hnr] at hnx
    simp only [Ip,aC,hgl] at hnx
    cases b with
    | false =>
     simp only [Bool.false_eq_true,if_false] at hnx
     refine zF ⟨?_⟩
     refine bG ah ah (fun _ _ r=>r=.int .i64 (-1)) ?_
     refine eH (zA @hat @hmod) ⟨?_⟩
     refine bI ay aK hnx ⟨_,rfl,rfl⟩ ?_
     rintro _ rfl -
     refine zG ⟨?_⟩
     refine zF ⟨?_⟩
     exact aP [2,5,6,7,9,10,11] (k+1,sb,L') ⟨hkl,hsk (fun _ _ h=>by simp at h),hg,hlm⟩ dL rfl
    | true =>
     simp only [if_true] at hnx
     have hyi:=kX hin ((hG y).1 (JJ hy))
     have hyc:=uQ hyi
     rw [hN] at hyc
     have hyg:=hg.at_ _ hyi
     by_cases ho:(R.getD k default).o = -1
     ·by_cases hmem:y∈L'
      ·rw [decide_eq_true hmem] at hyg
       refine zF ⟨?_⟩
       refine bG ah ah (fun _ _ r=>r=.int .i64 (cd w.length y)) ?_
       refine eH (zA @hat @hmod) ⟨?_⟩
       refine bI ay aK hnx ⟨_,rfl,rfl⟩ ?_
       rintro _ rfl -
       refine zG ⟨?_⟩
       refine eH (zA @hyg @Bool.not_true) ⟨?_⟩
       exact aP [2,5,6,7,9,10,11] (k+1,sb,L') ⟨hkl,hsk (fun _ z h=>by simp only [jR,and_true] at h;rw [<- h];exact hmem),hg,hlm⟩ dL rfl
      ·rw [decide_eq_false hmem] at hyg
       have hll:(L'++[y]).length=L'.length+1:=by simp
       refine zF ⟨?_⟩
       refine bG ah ah (fun _ _ r=>r=.int .i64 (cd w.length y)) ?_
       refine eH (zA @hat @hmod) ⟨?_⟩
       refine bI ay aK hnx ⟨_,rfl,rfl⟩ ?_
       rintro _ rfl -
       refine zG ⟨?_⟩
       refine eH (zA @hyg @Bool.not_false) ⟨?_⟩
       exact aP [2,5,6,7,9,10,11] (k+1,sb.set (cd w.length y).toNat true,L'++[y]) ⟨hkl,had y ho rfl hmem,hg.add hyi,by simp only [hll];omega⟩ dL (by simp only [hll,<- vX];rfl)
     ·
      refine zF ⟨?_⟩
      refine bG ah ah (fun _ _ r=>r=.int .i64 (cd w.length y)) ?_
      refine eH (zA @hat @hmod) ⟨?_⟩
      refine bI ay aK hnx ⟨_,rfl,rfl⟩ ?_
      rintro _ rfl -
      refine zG ⟨?_⟩
      refine zF ⟨?_⟩
      exact aP [2,5,6,7,9,10,11] (k+1,sb,L') ⟨hkl,hsk (fun h=>absurd h ho),hg,hlm⟩ dL rfl
   ·obtain rfl:k=R.length:=by omega
    have hd:=hwj.done hG hrow g3
    refine zF ⟨?_⟩
    exact aP [2,5,6,7,9] (i+1,sb,L') ⟨hd,hg,by simp only;omega⟩ dL rfl
  ·have hd:=hwi.done (by omega)
   refine zF ⟨?_⟩
   refine ae ?_
   exact ⟨L,rfl,hd,hwi.nd⟩
end Go.Proofs.Ytlbdmpjnmfmnfaa
end
