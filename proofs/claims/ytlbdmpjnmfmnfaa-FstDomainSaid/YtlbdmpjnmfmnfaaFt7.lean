import Derived.Test.YtlbdmpjnmfmnfaaFt6
import Derived.Test.YtlbdmpjnmfmnfaaFs8
import Derived.Test.YtlbdmpjnmfmnfaaHlRo
import Derived.Test.YtlbdmpjnmfmnfaaHlW
set_option linter.unusedSimpArgs false
set_option linter.unusedVariables false
set_option maxHeartbeats 8000000
namespace Go.Proofs.Ytlbdmpjnmfmnfaa
open Go.RowKit Go.HL Go.FS
theorem Jy:∀ {l m:List Bool},HL.bools l=HL.bools m->l=m
 | [],[],_=>rfl
 | [],_::_,h=>by cases h
 | _::_,[],h=>by cases h
 | a::l,b::m,h=>by
  simp only [HL.bools,dP,vk,HV.bool.injEq] at h
  rw [h.1,Jy h.2]
theorem LV:∀ {l m:List A},recs aC l=recs aC m->l=m
 | [],[],_=>rfl
 | [],_::_,h=>by cases h
 | _::_,[],h=>by cases h
 | ⟨a1,a2,a3,a4⟩::l,⟨b1,b2,b3,b4⟩::m,h=>by
  simp only [recs,List.flatMap_cons,aC,List.cons_append,List.nil_append,vk,HV.int.injEq,true_and] at h
  obtain ⟨rfl,rfl,rfl,rfl,h⟩:=h
  rw [LV h]
theorem X4 {f g:List Bool} {l m:List A} (h:dR f l=dR g m):f=g/\l=m:=by
 simp only [dR,fU,vk,HV.sl.injEq,and_true] at h
 exact ⟨Jy h.1.2,LV h.2.2⟩
def frD (args:List HV) (r:HV):Prop:=∃fin al,args=[.agg (dR fin al)]/\r=.osl 1 fin.length (dV (aT (·.f) fin.length al))
theorem Xa {fin:List Bool} {al:List A} {r:HV} (h:frD [.agg (dR fin al)] r):r=.osl 1 fin.length (dV (aT (·.f) fin.length al)):=by
 obtain ⟨f,l,h1,rfl⟩:=h
 simp only [vk,HV.agg.injEq,and_true] at h1
 obtain ⟨rfl,rfl⟩:=X4 h1
 rfl
theorem XM (fin:List Bool) (al:List A) (hv:okF fin al=true):HT Try.prog 64 [.agg (dR fin al)] (frD [.agg (dR fin al)]) :=
 (J6 fin al hv).mono fun r h=>⟨fin,al,rfl,h⟩
theorem Gl (ll:List (List A)):aQ (dV ll)=[]:=by
 induction ll with
 | nil=>rfl
 | cons l ll ih=>simp only [dV,dP,aQ,HV.deep,D9 (g:=aC) (fun _=>rfl),List.nil_append] at ih ⊢;exact ih
theorem Xt:zM ⟨.ints 2,none⟩ [] [] (.agg [.int .i64 0,.int .i64 0]) (.int .i64 0)=.omap ⟨.ints 2,none⟩ [.agg [.int .i64 0,.int .i64 0]] [.int .i64 0]:=rfl
def DY (fs ft:List Bool) (al bl:List A):(List Bool×List A)×Int :=
 if okF fs al=true/\okF ft bl=true then
  match Mc al bl with
  | some st=>((oh fs ft st.1,st.2),0)
  | none=>(([],[]),4)
 else (([],[]),1)
theorem aag {α:Type} {P:Program} {k:List HI} {Q:HE->St->Prop} {G:Prop} (σ:α->St) (Inv:α->Prop) (use:(∀a,Inv a->hx P k Q (σ a))->G) (key:∀a,Inv a->hx P k Q (σ a)):G:=use key
theorem Lm {fs ft:List Bool} {l:List Nd} {i:Nat} (h:i<l.length):oh fs ft (l.take (i+1))=oh fs ft (l.take i)++[fs.getD (l.getD i default).1.toNat false&&ft.getD (l.getD i default).2.toNat false]:=by
 unfold oh
 rw [bY h,oW];rfl
theorem G5 {n:Nat} {l:List A} {p:Int} (h0:0<=p) (h:p<n):(aT (·.f) n l).getD p.toNat []=outA p l:=by
 rw [nH _ _ (by omega)]
 unfold outA
 rw [Int.toNat_of_nonneg h0]
structure CI (fs ft:List Bool) (al bl:List A) (i:Nat) (st:CS):Prop where
 le:i<=st.1.length
 l1:st.1.length<=2048
 l2:st.2.length<=8192
 in_:∀v∈st.1,inP fs.length ft.length v
 go:DC al bl (2100 - i) i st=Mc al bl
theorem CI.pair {fs ft:List Bool} {al bl:List A} {i:Nat} {st:CS} (h:CI fs ft al bl i st) (hi:i<st.1.length):inP fs.length ft.length (st.1.getD i default):=by
 refine h.in_ _ ?_
 rw [bf,bn hi];exact iD hi
theorem CI.step {fs ft:List Bool} {al bl:List A} {i:Nat} {st:CS} (h:CI fs ft al bl i st) (hi:i<st.1.length):Mc al bl=if within (rnd al bl i st)=true then DC al bl (2100 - (i+1)) (i+1) (rnd al bl i st) else none:=by
 have h1:=h.go
 have h2:=h.l1
 rw [show 2100 - i=(2100 - (i+1))+1 by omega,DC,if_pos hi] at h1
 exact h1.symm
theorem CI.next {fs ft:List Bool} {al bl:List A} {i:Nat} {st:CS} (ho1:okF fs al=true) (ho2:okF ft bl=true) (h:CI fs ft al bl i st) (hi:i<st.1.length) (hw:within (rnd al bl i st)=true):CI fs ft al bl (i+1) (rnd al bl i st):=by
 have h1:=h.step hi
 rw [if_pos hw] at h1
 have hw':=hw
 simp only [within,decide_eq_true_eq] at hw'
 obtain ⟨x,hx⟩:=GY (i:=i) (l:=Dl al bl (st.1.getD i default)) (st:=st)
 refine ⟨?_,hw'.1,hw'.2,?_,h1.symm⟩
 ·show i+1<=(jc i st _).1.length
  rw [hx,dQ];omega
 ·refine SC h.in_ (Qg (fun a ha=>?_) (fun b hb=>?_) (h.pair hi))
  ·have:=gu ho1 ha;omega
  ·have:=gu ho2 hb;omega
theorem CI.done {fs ft:List Bool} {al bl:List A} {i:Nat} {st:CS} (h:CI fs ft al bl i st) (hi:¬ i<st.1.length):Mc al bl=some st:=by
 have h1:=h.go
 have h2:=h.l1
 have h3:=h.le
 rw [show 2100 - i=(2100 - (i+1))+1 by omega,DC,if_neg hi] at h1
 exact h1.symm
theorem CI.start {fs ft:List Bool} {al bl:List A} (h1:1<=fs.length) (h2:1<=ft.length):CI fs ft al bl 0 ([(0,0)],[]) :=
 ⟨by simp,by simp,by simp,fun v hv=>by simp only [zl009] at hv;subst hv;exact ⟨by simp,by simp only;omega,by simp,by simp only;omega⟩,rfl⟩
theorem TU (fs ft:List Bool) (al bl:List A) (ho1:okF fs al=true) (ho2:okF ft bl=true) :
  hx Try.prog [.c (.loop XF),.b 0,.c VZ] (finish [4,5] (KC [.c 4 true 2,.t 5] fun r=>r=.tup [.agg (Qr (DY fs ft al bl).1.1 (DY fs ft al bl).1.2),.int .i64 (DY fs ft al bl).2]))
   ⟨[(2,.ptr [.sl fs.length (HL.bools fs),.sl al.length (recs aC al)] 0),(3,.ptr [.sl ft.length (HL.bools ft),.sl bl.length (recs aC bl)] 0),(4,.pref 0 [] 0),(5,.int .i64 0),(6,.sl fs.length (dH (aT (·.f) fs.length al))),(7,.sl ft.length (dH (aT (·.f) ft.length bl))),(8,.pref 1 [] 0),(9,.pref 2 [] 0),(10,.pref 3 [] 0),(11,.fn 65 [.pref 1 [] 0,.pref 2 [] 0,.pref 3 [] 0]),(12,.int .i64 0)],[(0,.optr [.nils,.nils]),(1,lN [(0,0)]),(2,lV [(0,0)]),(3,kS [] [])],4⟩:=by
 obtain ⟨a1,a2,a3⟩:=lF ho1
 obtain ⟨b1,b2,b3⟩:=lF ho2
 have hl1:=iw (·.f) fs.length al
 have hl2:=iw (·.f) ft.length bl
 have hcm:DY fs ft al bl=match Mc al bl with|some st=>((oh fs ft st.1,st.2),0)|none=>(([],[]),4):=by unfold DY;rw [if_pos ⟨ho1,ho2⟩]
 refine aF [2,3,4,5,6,7,8,9,10,11,12] (fun s:Nat×CS=>CI fs ft al bl s.1 s.2)
  (fun s=>⟨[(2,.ptr [.sl fs.length (HL.bools fs),.sl al.length (recs aC al)] 0),(3,.ptr [.sl ft.length (HL.bools ft),.sl bl.length (recs aC bl)] 0),(4,.pref 0 [] 0),(5,.int .i64 0),(6,.sl fs.length (dH (aT (·.f) fs.length al))),(7,.sl ft.length (dH (aT (·.f) ft.length bl))),(8,.pref 1 [] 0),(9,.pref 2 [] 0),(10,.pref 3 [] 0),(11,.fn 65 [.pref 1 [] 0,.pref 2 [] 0,.pref 3 [] 0]),(12,.int .i64 s.1)],[(0,.optr [.nils,.nils]),(1,lN s.2.1),(2,lV s.2.1),(3,kS (oh fs ft (s.2.1.take s.1)) s.2.2)],4⟩)
  (fun s=>2100 - s.1) (0,([(0,0)],[])) (.start a1 b1) rfl ?_
 rintro ⟨i,st⟩ hI
 simp only at hI ⊢
 have q1:=hI.le
 have q2:=hI.l1
 have q3:=hI.l2
 have hFl:(oh fs ft (st.1.take i)).length=i:=by simp only [oh,List.length_map,eu];omega
 by_cases hi:i<st.1.length
 ·have hv:=hI.pair hi
  have hft:=Lm (fs:=fs) (ft:=ft) hi
  have hr1:=G5 (l:=al) hv.1 hv.2.1
  have hr2:=G5 (l:=bl) hv.2.2.1 hv.2.2.2
  have hc1:=hI.step hi
  have hnx:=hI.next ho1 ho2 hi
  generalize hFe:oh fs ft (st.1.take i)=F at hFl hft ⊢
  obtain ⟨v,hve⟩:∃v,st.1.getD i default=v:=⟨_,rfl⟩
  rw [hve] at hv hft hr1 hr2
  obtain ⟨v1,v2,v3,v4⟩:=hv
  refine fP @hve ⟨?_⟩
  refine aP 132 [2,3,4,5,6,7,8,9,10,11,12,13] ⟨[(2,.ptr [.sl fs.length (HL.bools fs),.sl al.length (recs aC al)] 0),(3,.ptr [.sl ft.length (HL.bools ft),.sl bl.length (recs aC bl)] 0),(4,.pref 0 [] 0),(5,.int .i64 0),(6,.sl fs.length (dH (aT (·.f) fs.length al))),(7,.sl ft.length (dH (aT (·.f) ft.length bl))),(8,.pref 1 [] 0),(9,.pref 2 [] 0),(10,.pref 3 [] 0),(11,.fn 65 [.pref 1 [] 0,.pref 2 [] 0,.pref 3 [] 0]),(12,.int .i64 i),(13,.ptr [.int .i64 v.1,.int .i64 v.2] 0)],[(0,.optr [.nils,.nils]),(1,lN st.1),(2,lV st.1),(3,kS F st.2)],4⟩ rfl ?_
  have o1:(outA v.1 al).length<=8192:=sU (List.length_filter_le _ _) a3
  have o2:(outA v.2 bl).length<=8192:=sU (List.length_filter_le _ _) b3
  have hF1:(F++[fs.getD v.1.toNat false&&ft.getD v.2.toNat false]).length=i+1:=by simp [hFl]
  apply aag (P:=Try.prog) (fun _:Unit=>(⟨[(2,.ptr [.sl fs.length (HL.bools fs),.sl al.length (recs aC al)] 0),(3,.ptr [.sl ft.length (HL.bools ft),.sl bl.length (recs aC bl)] 0),(4,.pref 0 [] 0),(5,.int .i64 0),(6,.sl fs.length (dH (aT (·.f) fs.length al))),(7,.sl ft.length (dH (aT (·.f) ft.length bl))),(8,.pref 1 [] 0),(9,.pref 2 [] 0),(10,.pref 3 [] 0),(11,.fn 65 [.pref 1 [] 0,.pref 2 [] 0,.pref 3 [] 0]),(12,.int .i64 i),(13,.ptr [.int .i64 v.1,.int .i64 v.2] 0)],[(0,.optr [.nils,.nils]),(1,lN st.1),(2,lV st.1),(3,kS (F++[fs.getD v.1.toNat false&&ft.getD v.2.toNat false]) st.2)],4⟩:St)) (fun _=>True)
  ·intro key
   refine jR [2,3,13] [10] aA aA (fun _ _ _=>False) (by simp [au,HV.deep,aQ,kW,Bf]) (by simp [au,HV.deep,aQ]) ?_
   cases c1:fs.getD v.1.toNat false with
   | false =>
    rw [c1] at key hF1
    refine zQx @c1 ⟨?_⟩
    exact bV [2,3,4,5,6,7,8,9,10,11,12,13] _ (by unfold kS;rw [dQ];rfl) (key () trivial)
   | true =>
    rw [c1] at key hF1
    cases c2:ft.getD v.2.toNat false with
    | false =>
     rw [c2] at key hF1
     refine zQx (zA @c1 @c2) ⟨?_⟩
     exact bV [2,3,4,5,6,7,8,9,10,11,12,13] _ (by unfold kS;rw [dQ];rfl) (key () trivial)
    | true =>
     rw [c2] at key hF1
     refine zQx (zA @c1 @c2) ⟨?_⟩
     exact bV [2,3,4,5,6,7,8,9,10,11,12,13] _ (by unfold kS;rw [dQ];rfl) (key () trivial)
  rintro - -
  have hrd:jc i (jc i st (stA (outA v.2 bl) v)) ((outA v.1 al).flatMap fun a=>GX a (outA v.2 bl) v)=rnd al bl i st:=by
   rw [<- Du];unfold rnd Dl ZE;rw [hve]
  have hA:=wI (i:=i) (l:=stA (outA v.2 bl) v) (st:=st)
  have hAl:=Q4 (two:=outA v.2 bl) (v:=v)
  refine fP @hr2 ⟨?_⟩
  refine bV [2,3,4,5,6,7,8,9,10,11,12,13,72,73,74] ⟨[(2,.ptr [.sl fs.length (HL.bools fs),.sl al.length (recs aC al)] 0),(3,.ptr [.sl ft.length (HL.bools ft),.sl bl.length (recs aC bl)] 0),(4,.pref 0 [] 0),(5,.int .i64 0),(6,.sl fs.length (dH (aT (·.f) fs.length al))),(7,.sl ft.length (dH (aT (·.f) ft.length bl))),(8,.pref 1 [] 0),(9,.pref 2 [] 0),(10,.pref 3 [] 0),(11,.fn 65 [.pref 1 [] 0,.pref 2 [] 0,.pref 3 [] 0]),(12,.int .i64 i),(13,.ptr [.int .i64 v.1,.int .i64 v.2] 0),(72,.sl (outA v.2 bl).length (recs aC (outA v.2 bl))),(73,.int .i64 (outA v.2 bl).length),(74,.int .i64 0)],[(0,.optr [.nils,.nils]),(1,lN st.1),(2,lV st.1),(3,kS (F++[fs.getD v.1.toNat false&&ft.getD v.2.toNat false]) st.2)],4⟩ rfl ?_
  refine ab7 _ _ _ _ _ _ i v (outA v.2 bl) (F++[fs.getD v.1.toNat false&&ft.getD v.2.toNat false]) st o2 (by omega) (by omega) (by omega) ?_
  refine fP @hr1 ⟨?_⟩
  refine bV [2,3,4,5,6,7,8,9,10,11,12,13,96,97,98] ⟨[(2,.ptr [.sl fs.length (HL.bools fs),.sl al.length (recs aC al)] 0),(3,.ptr [.sl ft.length (HL.bools ft),.sl bl.length (recs aC bl)] 0),(4,.pref 0 [] 0),(5,.int .i64 0),(6,.sl fs.length (dH (aT (·.f) fs.length al))),(7,.sl ft.length (dH (aT (·.f) ft.length bl))),(8,.pref 1 [] 0),(9,.pref 2 [] 0),(10,.pref 3 [] 0),(11,.fn 65 [.pref 1 [] 0,.pref 2 [] 0,.pref 3 [] 0]),(12,.int .i64 i),(13,.ptr [.int .i64 v.1,.int .i64 v.2] 0),(96,.sl (outA v.1 al).length (recs aC (outA v.1 al))),(97,.int .i64 (outA v.1 al).length),(98,.int .i64 0)],[(0,.optr [.nils,.nils]),(1,lN (jc i st (stA (outA v.2 bl) v)).1),(2,lV (jc i st (stA (outA v.2 bl) v)).1),(3,kS (F++[fs.getD v.1.toNat false&&ft.getD v.2.toNat false]) (jc i st (stA (outA v.2 bl) v)).2)],4⟩ rfl ?_
  refine abJ _ _ _ _ _ _ i v (outA v.1 al) (outA v.2 bl) (F++[fs.getD v.1.toNat false&&ft.getD v.2.toNat false]) _ o1 o2 (by omega) (by omega) (by omega) v3 v4 (by rw [DZ,hl2]) (by rw [JJ _ (by omega),hr2]) ?_
  have hB:=wI (i:=i) (l:=(outA v.1 al).flatMap fun a=>GX a (outA v.2 bl) v) (st:=jc i st (stA (outA v.2 bl) v))
  have hBl:=RD (one:=outA v.1 al) (two:=outA v.2 bl) (v:=v)
  have hBm:(outA v.1 al).length*((outA v.2 bl).length+1)<=8192*8193:=CV o1 (by omega)
  have htk:(rnd al bl i st).1.take (i+1)=st.1.take (i+1):=by
   obtain ⟨y,hy⟩:=GY (i:=i) (l:=Dl al bl (st.1.getD i default)) (st:=st)
   unfold rnd
   rw [hy,Ic (by omega)]
  rw [hrd] at hB ⊢
  rw [<- hft,<- htk]
  have hlt:(oh fs ft ((rnd al bl i st).1.take (i+1))).length=i+1:=by rw [htk,hft,dQ,hFl];rfl
  generalize rnd al bl i st=sn at hc1 hnx hB hlt ⊢
  have hrl:sn.1.length<=100000000/\sn.2.length<=100000000:=by omega
  have hFn:(oh fs ft (sn.1.take (i+1))).length<=100000:=by omega
  by_cases w1:2048<sn.1.length
  ·skip
   have hwn:within sn=false:=by simp only [within,decide_eq_false_iff_not];omega
   rw [hwn,if_neg (by decide)] at hc1
   rw [hc1] at hcm
   rw [hcm]
   refine zF ⟨?_⟩
   refine dZ 0 [1,4] [4,5] (⟨[(4,.pref 0 [] 0),(5,.int .i64 4)],[(0,.optr [.osl 1 0 [],.osl 4 0 []])],1⟩:St) rfl rfl ?_
   refine ae ?_
   exact ⟨_,_,rfl,rfl,rfl⟩
  ·by_cases w2:8192<sn.2.length
   ·skip
    have hwn:within sn=false:=by simp only [within,decide_eq_false_iff_not];omega
    rw [hwn,if_neg (by decide)] at hc1
    rw [hc1] at hcm
    rw [hcm]
    refine zF ⟨?_⟩
    refine dZ 0 [1,4] [4,5] (⟨[(4,.pref 0 [] 0),(5,.int .i64 4)],[(0,.optr [.osl 1 0 [],.osl 4 0 []])],1⟩:St) rfl rfl ?_
    refine ae ?_
    exact ⟨_,_,rfl,rfl,rfl⟩
   ·refine zF ⟨?_⟩
    exact aV [2,3,4,5,6,7,8,9,10,11,12] (i+1,sn) (hnx (by simp only [within,decide_eq_true_eq];omega)) iQ rfl
 ·have hc:=hI.done hi
  rw [hc] at hcm
  rw [hcm]
  obtain rfl:i=st.1.length:=by omega
  rw [ig]
  rw [ig] at hFl
  refine zF ⟨?_⟩
  refine X0 af (by rfl) (by rfl) IB (by decide) (by simp only [tV,Ae];try rfl) ?_
  refine zF ⟨?_⟩
  refine ae ?_
  exact ⟨_,_,rfl,rfl,rfl⟩
end Go.Proofs.Ytlbdmpjnmfmnfaa
