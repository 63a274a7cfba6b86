import Derived.Test.YtlbdmpjnmfmnfaaFs7
import Derived.Test.YtlbdmpjnmfmnfaaFs8
import Derived.Test.YtlbdmpjnmfmnfaaHlRo
set_option linter.unusedSimpArgs false
set_option linter.unusedVariables false
namespace Go.Proofs.Ytlbdmpjnmfmnfaa
open Go.RowKit Go.HL Go.FS
theorem yZ:∀ {l m:List Bool},HL.bools l=HL.bools m->l=m
 | [],[],_=>rfl
 | [],_::_,h=>by cases h
 | _::_,[],h=>by cases h
 | a::l,b::m,h=>by
  simp only [HL.bools,List.map_cons,List.cons.injEq,HV.bool.injEq] at h
  rw [h.1,yZ h.2]
theorem DD:∀ {l m:List A},recs aC l=recs aC m->l=m
 | [],[],_=>rfl
 | [],_::_,h=>by cases h
 | _::_,[],h=>by cases h
 | ⟨a1,a2,a3,a4⟩::l,⟨b1,b2,b3,b4⟩::m,h=>by
  simp only [recs,List.flatMap_cons,aC,List.cons_append,List.nil_append,List.cons.injEq,HV.int.injEq,true_and] at h
  obtain ⟨rfl,rfl,rfl,rfl,h⟩:=h
  rw [DD h]
theorem Nl {f g:List Bool} {l m:List A} (h:iF f l=iF g m):f=g/\l=m:=by
 simp only [iF,jJ,List.cons.injEq,HV.sl.injEq,and_true] at h
 exact ⟨yZ h.1.2,DD h.2.2⟩
def ZL (args:List HV) (r:HV):Prop:=∃fin al,args=[.agg (iF fin al)]/\r=.osl 1 fin.length (fM (bD (·.f) fin.length al))
theorem JE {fin:List Bool} {al:List A} {r:HV} (h:ZL [.agg (iF fin al)] r):r=.osl 1 fin.length (fM (bD (·.f) fin.length al)):=by
 obtain ⟨f,l,h1,rfl⟩:=h
 simp only [List.cons.injEq,HV.agg.injEq,and_true] at h1
 obtain ⟨rfl,rfl⟩:=Nl h1
 rfl
theorem LZ (fin:List Bool) (al:List A) (hv:okF fin al=true):HT Try.prog 64 [.agg (iF fin al)] (ZL [.agg (iF fin al)]) :=
 (Gv fin al hv).mono fun r h=>⟨fin,al,rfl,h⟩
theorem wX (ll:List (List A)):bg (fM ll)=[]:=by
 induction ll with
 | nil=>rfl
 | cons l ll ih=>simp only [fM,List.map_cons,bg,HV.deep,uS (g:=aC) (fun _=>rfl),List.nil_append] at ih ⊢;exact ih
theorem xQ:rX ⟨.ints 2,none⟩ [] [] (.agg [.int .i64 0,.int .i64 0]) (.int .i64 0)=.omap ⟨.ints 2,none⟩ [.agg [.int .i64 0,.int .i64 0]] [.int .i64 0]:=rfl
def oq (fs ft:List Bool) (al bl:List A):(List Bool×List A)×Int :=
 if okF fs al=true/\okF ft bl=true then
  match oG al bl with
  | some st=>((iw fs ft st.1,st.2),0)
  | none=>(([],[]),4)
 else (([],[]),1)
theorem Aj {α:Type} {P:Program} {k:List HI} {Q:HE->St->Prop} {G:Prop} (σ:α->St) (Inv:α->Prop) (use:(∀a,Inv a->hx P k Q (σ a))->G) (key:∀a,Inv a->hx P k Q (σ a)):G:=use key
theorem Bh {fs ft:List Bool} {l:List Nd} {i:Nat} (h:i<l.length):iw fs ft (l.take (i+1))=iw fs ft (l.take i)++[fs.getD (l.getD i default).1.toNat false&&ft.getD (l.getD i default).2.toNat false]:=by
 unfold iw
 rw [dC h,List.map_append];rfl
theorem yD {n:Nat} {l:List A} {p:Int} (h0:0<=p) (h:p<n):(bD (·.f) n l).getD p.toNat []=outA p l:=by
 rw [kK _ _ (by omega)]
 unfold outA
 rw [Int.toNat_of_nonneg h0]
structure CI (fs ft:List Bool) (al bl:List A) (i:Nat) (st:CS):Prop where
 le:i<=st.1.length
 l1:st.1.length<=2048
 l2:st.2.length<=8192
 in_:∀v∈st.1,JH fs.length ft.length v
 go:lH al bl (2100 - i) i st=oG al bl
theorem CI.pair {fs ft:List Bool} {al bl:List A} {i:Nat} {st:CS} (h:CI fs ft al bl i st) (hi:i<st.1.length):JH fs.length ft.length (st.1.getD i default):=by
 refine h.in_ _ ?_
 rw [List.getD_eq_getElem?_getD,List.getElem?_eq_getElem hi];exact List.getElem_mem hi
theorem CI.step {fs ft:List Bool} {al bl:List A} {i:Nat} {st:CS} (h:CI fs ft al bl i st) (hi:i<st.1.length):oG al bl=if within (Bd al bl i st)=true then lH al bl (2100 - (i+1)) (i+1) (Bd al bl i st) else none:=by
 have h1:=h.go
 have h2:=h.l1
 rw [show 2100 - i=(2100 - (i+1))+1 by omega,lH,if_pos hi] at h1
 exact h1.symm
theorem CI.next {fs ft:List Bool} {al bl:List A} {i:Nat} {st:CS} (ho1:okF fs al=true) (ho2:okF ft bl=true) (h:CI fs ft al bl i st) (hi:i<st.1.length) (hw:within (Bd al bl i st)=true):CI fs ft al bl (i+1) (Bd al bl i st):=by
 have h1:=h.step hi
 rw [if_pos hw] at h1
 have hw':=hw
 simp only [within,decide_eq_true_eq] at hw'
 obtain ⟨x,hx⟩:=oI (i:=i) (l:=gB al bl (st.1.getD i default)) (st:=st)
 refine ⟨?_,hw'.1,hw'.2,?_,h1.symm⟩
 ·show i+1<=(gG i st _).1.length
  rw [hx,List.length_append];omega
 ·refine AL h.in_ (xx (fun a ha=>?_) (fun b hb=>?_) (h.pair hi))
  ·have:=fD ho1 ha;omega
  ·have:=fD ho2 hb;omega
theorem CI.done {fs ft:List Bool} {al bl:List A} {i:Nat} {st:CS} (h:CI fs ft al bl i st) (hi:¬ i<st.1.length):oG al bl=some st:=by
 have h1:=h.go
 have h2:=h.l1
 have h3:=h.le
 rw [show 2100 - i=(2100 - (i+1))+1 by omega,lH,if_neg hi] at h1
 exact h1.symm
theorem CI.start {fs ft:List Bool} {al bl:List A} (h1:1<=fs.length) (h2:1<=ft.length):CI fs ft al bl 0 ([(0,0)],[]) :=
 ⟨by simp,by simp,by simp,fun v hv=>by simp only [List.mem_singleton] at hv;subst hv;exact ⟨by simp,by simp only;omega,by simp,by simp only;omega⟩,rfl⟩
set_option maxHeartbeats 8000000 in
theorem Jf (fs ft:List Bool) (al bl:List A) (ho1:okF fs al=true) (ho2:okF ft bl=true) :
  hx Try.prog [.c (.loop Ls),.b 0,.c KW] (finish [4,5] (KC [.c 4 true 2,.t 5] fun r=>r=.tup [.agg (xU (oq fs ft al bl).1.1 (oq fs ft al bl).1.2),.int .i64 (oq fs ft al bl).2]))
   ⟨[(2,.ptr [.sl fs.length (HL.bools fs),.sl al.length (recs aC al)] 0),(3,.ptr [.sl ft.length (HL.bools ft),.sl bl.length (recs aC bl)] 0),(4,.pref 0 [] 0),(5,.int .i64 0),(6,.sl fs.length (eU (bD (·.f) fs.length al))),(7,.sl ft.length (eU (bD (·.f) ft.length bl))),(8,.pref 1 [] 0),(9,.pref 2 [] 0),(10,.pref 3 [] 0),(11,.fn 65 [.pref 1 [] 0,.pref 2 [] 0,.pref 3 [] 0]),(12,.int .i64 0)],[(0,.optr [.nils,.nils]),(1,jD [(0,0)]),(2,jB [(0,0)]),(3,je [] [])],4⟩:=by
 obtain ⟨a1,a2,a3⟩:=gm ho1
 obtain ⟨b1,b2,b3⟩:=gm ho2
 have hl1:=iE (·.f) fs.length al
 have hl2:=iE (·.f) ft.length bl
 have hcm:oq fs ft al bl=match oG al bl with|some st=>((iw fs ft st.1,st.2),0)|none=>(([],[]),4):=by unfold oq;rw [if_pos ⟨ho1,ho2⟩]
 refine dn [2,3,4,5,6,7,8,9,10,11,12] (fun s:Nat×CS=>CI fs ft al bl s.1 s.2)
  (fun s=>⟨[(2,.ptr [.sl fs.length (HL.bools fs),.sl al.length (recs aC al)] 0),(3,.ptr [.sl ft.length (HL.bools ft),.sl bl.length (recs aC bl)] 0),(4,.pref 0 [] 0),(5,.int .i64 0),(6,.sl fs.length (eU (bD (·.f) fs.length al))),(7,.sl ft.length (eU (bD (·.f) ft.length bl))),(8,.pref 1 [] 0),(9,.pref 2 [] 0),(10,.pref 3 [] 0),(11,.fn 65 [.pref 1 [] 0,.pref 2 [] 0,.pref 3 [] 0]),(12,.int .i64 s.1)],[(0,.optr [.nils,.nils]),(1,jD s.2.1),(2,jB s.2.1),(3,je (iw fs ft (s.2.1.take s.1)) s.2.2)],4⟩)
  (fun s=>2100 - s.1) (0,([(0,0)],[])) (.start a1 b1) rfl ?_
 rintro ⟨i,st⟩ hI
 simp only at hI ⊢
 have q1:=hI.le
 have q2:=hI.l1
 have q3:=hI.l2
 have hFl:(iw fs ft (st.1.take i)).length=i:=by simp only [iw,List.length_map,List.length_take];omega
 by_cases hi:i<st.1.length
 ·have hv:=hI.pair hi
  have hft:=Bh (fs:=fs) (ft:=ft) hi
  have hr1:=yD (l:=al) hv.1 hv.2.1
  have hr2:=yD (l:=bl) hv.2.2.1 hv.2.2.2
  have hc1:=hI.step hi
  have hnx:=hI.next ho1 ho2 hi
  generalize hFe:iw fs ft (st.1.take i)=F at hFl hft ⊢
  obtain ⟨v,hve⟩:∃v,st.1.getD i default=v:=⟨_,rfl⟩
  rw [hve] at hv hft hr1 hr2
  obtain ⟨v1,v2,v3,v4⟩:=hv
  repeat (first|refine ah ?_|refine gQ ?_|refine iG (by rfl) bQ (by (try simp (disch:=omega) only [go_sem,reduceIte,Nat.reduceEqDiff,Nat.reduceAdd,Nat.reduceMul,hve]);try rfl) aQ (by (try simp (disch:=omega) only [go_sem,hve]);try rfl) aJ ?_|refine af ?_|refine aF ?_|refine fG (by rfl) ?_|refine ax ?_|refine ak ?_|refine ae ?_|refine aK ?_|refine aI ?_|refine iZ (by rfl) bQ aO aQ (by decide) (by (try simp (disch:=omega) only [go_sem,reduceIte,Nat.reduceEqDiff,Nat.reduceAdd,Nat.reduceMul,hve]);try rfl) iM ?_|refine yP (by rfl) aJ aO iM (by rfl) (by decide) bQ aO aQ (by (try simp (disch:=omega) only [go_sem,hve]);try rfl) aO ?_|refine bI dZ ?_)
  refine bU 132 [2,3,4,5,6,7,8,9,10,11,12,13] ⟨[(2,.ptr [.sl fs.length (HL.bools fs),.sl al.length (recs aC al)] 0),(3,.ptr [.sl ft.length (HL.bools ft),.sl bl.length (recs aC bl)] 0),(4,.pref 0 [] 0),(5,.int .i64 0),(6,.sl fs.length (eU (bD (·.f) fs.length al))),(7,.sl ft.length (eU (bD (·.f) ft.length bl))),(8,.pref 1 [] 0),(9,.pref 2 [] 0),(10,.pref 3 [] 0),(11,.fn 65 [.pref 1 [] 0,.pref 2 [] 0,.pref 3 [] 0]),(12,.int .i64 i),(13,.ptr [.int .i64 v.1,.int .i64 v.2] 0)],[(0,.optr [.nils,.nils]),(1,jD st.1),(2,jB st.1),(3,je F st.2)],4⟩ rfl ?_
  have o1:(outA v.1 al).length<=8192:=Nat.le_trans (List.length_filter_le _ _) a3
  have o2:(outA v.2 bl).length<=8192:=Nat.le_trans (List.length_filter_le _ _) b3
  have hF1:(F++[fs.getD v.1.toNat false&&ft.getD v.2.toNat false]).length=i+1:=by simp [hFl]
  apply Aj (P:=Try.prog) (fun _:Unit=>(⟨[(2,.ptr [.sl fs.length (HL.bools fs),.sl al.length (recs aC al)] 0),(3,.ptr [.sl ft.length (HL.bools ft),.sl bl.length (recs aC bl)] 0),(4,.pref 0 [] 0),(5,.int .i64 0),(6,.sl fs.length (eU (bD (·.f) fs.length al))),(7,.sl ft.length (eU (bD (·.f) ft.length bl))),(8,.pref 1 [] 0),(9,.pref 2 [] 0),(10,.pref 3 [] 0),(11,.fn 65 [.pref 1 [] 0,.pref 2 [] 0,.pref 3 [] 0]),(12,.int .i64 i),(13,.ptr [.int .i64 v.1,.int .i64 v.2] 0)],[(0,.optr [.nils,.nils]),(1,jD st.1),(2,jB st.1),(3,je (F++[fs.getD v.1.toNat false&&ft.getD v.2.toNat false]) st.2)],4⟩:St)) (fun _=>True)
  ·intro key
   refine lg [2,3,13] [10] bC bC (fun _ _ _=>False) (by simp [aA,HV.deep,bg,qx,kN]) (by simp [aA,HV.deep,bg]) ?_
   cases c1:fs.getD v.1.toNat false with
   | false =>
    rw [c1] at key hF1
    repeat (first|refine ah ?_|refine dI ?_|refine bu ?_|refine jf (by rfl) aQ (by (try simp (disch:=omega) only [go_sem,c1]);try rfl) ?_|refine iG (by rfl) bQ (by (try simp (disch:=omega) only [go_sem,reduceIte,Nat.reduceEqDiff,Nat.reduceAdd,Nat.reduceMul,c1]);try rfl) aQ (by (try simp (disch:=omega) only [go_sem,c1]);try rfl) aJ ?_|refine af ?_|refine aS ?_|refine dh ?_|refine aH ?_|refine lK (by rfl) aJ aO jh lS (by rfl) nC (by rfl) mV (by (try simp (disch:=omega) only [go_sem,reduceIte,Nat.reduceEqDiff,Nat.reduceAdd,Nat.reduceMul,c1]);try rfl) aQ (by (try simp (disch:=omega) only [go_sem,c1]);try rfl) aO jk ?_|refine cO ?_|refine lI dZ (by rfl) aJ sK (by (try simp (disch:=omega) only [go_sem,reduceIte,Nat.reduceEqDiff,Nat.reduceAdd,Nat.reduceMul,c1]);try omega) bQ (by (try simp (disch:=omega) only [go_sem,reduceIte,Nat.reduceEqDiff,Nat.reduceAdd,Nat.reduceMul,c1]);try rfl) dZ (by omega) iC aQ (by (try simp (disch:=omega) only [go_sem,reduceIte,Nat.reduceEqDiff,Nat.reduceAdd,Nat.reduceMul,c1]);try rfl) aO ?_)
    exact dR [2,3,4,5,6,7,8,9,10,11,12,13] _ (by unfold je;rw [List.length_append];rfl) (key () trivial)
   | true =>
    rw [c1] at key hF1
    cases c2:ft.getD v.2.toNat false with
    | false =>
     rw [c2] at key hF1
     repeat (first|refine ah ?_|refine aT ?_|refine bu ?_|refine jf (by rfl) aQ (by (try simp (disch:=omega) only [go_sem,c1,c2]);try rfl) ?_|refine iG (by rfl) bQ (by (try simp (disch:=omega) only [go_sem,reduceIte,Nat.reduceEqDiff,Nat.reduceAdd,Nat.reduceMul,c1,c2]);try rfl) aQ (by (try simp (disch:=omega) only [go_sem,c1,c2]);try rfl) aJ ?_|refine af ?_|refine aU ?_|refine dh ?_|refine aH ?_|refine lK (by rfl) aJ aO jh lS (by rfl) nC (by rfl) mV (by (try simp (disch:=omega) only [go_sem,reduceIte,Nat.reduceEqDiff,Nat.reduceAdd,Nat.reduceMul,c1,c2]);try rfl) aQ (by (try simp (disch:=omega) only [go_sem,c1,c2]);try rfl) aO jk ?_|refine cO ?_|refine lI dZ (by rfl) aJ sK (by (try simp (disch:=omega) only [go_sem,reduceIte,Nat.reduceEqDiff,Nat.reduceAdd,Nat.reduceMul,c1,c2]);try omega) bQ (by (try simp (disch:=omega) only [go_sem,reduceIte,Nat.reduceEqDiff,Nat.reduceAdd,Nat.reduceMul,c1,c2]);try rfl) dZ (by omega) iC aQ (by (try simp (disch:=omega) only [go_sem,reduceIte,Nat.reduceEqDiff,Nat.reduceAdd,Nat.reduceMul,c1,c2]);try rfl) aO ?_)
     exact dR [2,3,4,5,6,7,8,9,10,11,12,13] _ (by unfold je;rw [List.length_append];rfl) (key () trivial)
    | true =>
     rw [c2] at key hF1
     repeat (first|refine ah ?_|refine aT ?_|refine bu ?_|refine jf (by rfl) aQ (by (try simp (disch:=omega) only [go_sem,c1,c2]);try rfl) ?_|refine iG (by rfl) bQ (by (try simp (disch:=omega) only [go_sem,reduceIte,Nat.reduceEqDiff,Nat.reduceAdd,Nat.reduceMul,c1,c2]);try rfl) aQ (by (try simp (disch:=omega) only [go_sem,c1,c2]);try rfl) aJ ?_|refine af ?_|refine aU ?_|refine dh ?_|refine aH ?_|refine lK (by rfl) aJ aO jh lS (by rfl) nC (by rfl) mV (by (try simp (disch:=omega) only [go_sem,reduceIte,Nat.reduceEqDiff,Nat.reduceAdd,Nat.reduceMul,c1,c2]);try rfl) aQ (by (try simp (disch:=omega) only [go_sem,c1,c2]);try rfl) aO jk ?_|refine cO ?_|refine lI dZ (by rfl) aJ sK (by (try simp (disch:=omega) only [go_sem,reduceIte,Nat.reduceEqDiff,Nat.reduceAdd,Nat.reduceMul,c1,c2]);try omega) bQ (by (try simp (disch:=omega) only [go_sem,reduceIte,Nat.reduceEqDiff,Nat.reduceAdd,Nat.reduceMul,c1,c2]);try rfl) dZ (by omega) iC aQ (by (try simp (disch:=omega) only [go_sem,reduceIte,Nat.reduceEqDiff,Nat.reduceAdd,Nat.reduceMul,c1,c2]);try rfl) aO ?_)
     exact dR [2,3,4,5,6,7,8,9,10,11,12,13] _ (by unfold je;rw [List.length_append];rfl) (key () trivial)
  rintro - -
  have hrd:gG i (gG i st (stA (outA v.2 bl) v)) ((outA v.1 al).flatMap fun a=>yC a (outA v.2 bl) v)=Bd al bl i st:=by
   rw [<- uk];unfold Bd gB MG;rw [hve]
  have hA:=mY (i:=i) (l:=stA (outA v.2 bl) v) (st:=st)
  have hAl:=Bo (two:=outA v.2 bl) (v:=v)
  repeat (first|refine ah ?_|refine bu ?_|refine jf (by rfl) aQ (by (try simp (disch:=omega) only [go_sem,hr2]);try rfl) ?_|refine af ?_|refine dm (by rfl) ?_|refine ak ?_|refine ae ?_|refine aK ?_|refine dh ?_)
  refine dR [2,3,4,5,6,7,8,9,10,11,12,13,72,73,74] ⟨[(2,.ptr [.sl fs.length (HL.bools fs),.sl al.length (recs aC al)] 0),(3,.ptr [.sl ft.length (HL.bools ft),.sl bl.length (recs aC bl)] 0),(4,.pref 0 [] 0),(5,.int .i64 0),(6,.sl fs.length (eU (bD (·.f) fs.length al))),(7,.sl ft.length (eU (bD (·.f) ft.length bl))),(8,.pref 1 [] 0),(9,.pref 2 [] 0),(10,.pref 3 [] 0),(11,.fn 65 [.pref 1 [] 0,.pref 2 [] 0,.pref 3 [] 0]),(12,.int .i64 i),(13,.ptr [.int .i64 v.1,.int .i64 v.2] 0),(72,.sl (outA v.2 bl).length (recs aC (outA v.2 bl))),(73,.int .i64 (outA v.2 bl).length),(74,.int .i64 0)],[(0,.optr [.nils,.nils]),(1,jD st.1),(2,jB st.1),(3,je (F++[fs.getD v.1.toNat false&&ft.getD v.2.toNat false]) st.2)],4⟩ rfl ?_
  refine SX _ _ _ _ _ _ i v (outA v.2 bl) (F++[fs.getD v.1.toNat false&&ft.getD v.2.toNat false]) st o2 (by omega) (by omega) (by omega) ?_
  repeat (first|refine ah ?_|refine bu ?_|refine jf (by rfl) aQ (by (try simp (disch:=omega) only [go_sem,hr1]);try rfl) ?_|refine af ?_|refine dm (by rfl) ?_|refine ak ?_|refine ae ?_|refine aK ?_|refine dh ?_)
  refine dR [2,3,4,5,6,7,8,9,10,11,12,13,96,97,98] ⟨[(2,.ptr [.sl fs.length (HL.bools fs),.sl al.length (recs aC al)] 0),(3,.ptr [.sl ft.length (HL.bools ft),.sl bl.length (recs aC bl)] 0),(4,.pref 0 [] 0),(5,.int .i64 0),(6,.sl fs.length (eU (bD (·.f) fs.length al))),(7,.sl ft.length (eU (bD (·.f) ft.length bl))),(8,.pref 1 [] 0),(9,.pref 2 [] 0),(10,.pref 3 [] 0),(11,.fn 65 [.pref 1 [] 0,.pref 2 [] 0,.pref 3 [] 0]),(12,.int .i64 i),(13,.ptr [.int .i64 v.1,.int .i64 v.2] 0),(96,.sl (outA v.1 al).length (recs aC (outA v.1 al))),(97,.int .i64 (outA v.1 al).length),(98,.int .i64 0)],[(0,.optr [.nils,.nils]),(1,jD (gG i st (stA (outA v.2 bl) v)).1),(2,jB (gG i st (stA (outA v.2 bl) v)).1),(3,je (F++[fs.getD v.1.toNat false&&ft.getD v.2.toNat false]) (gG i st (stA (outA v.2 bl) v)).2)],4⟩ rfl ?_
  refine Sr _ _ _ _ _ _ i v (outA v.1 al) (outA v.2 bl) (F++[fs.getD v.1.toNat false&&ft.getD v.2.toNat false]) _ o1 o2 (by omega) (by omega) (by omega) v3 v4 (by rw [uT,hl2]) (by rw [zG _ (by omega),hr2]) ?_
  have hB:=mY (i:=i) (l:=(outA v.1 al).flatMap fun a=>yC a (outA v.2 bl) v) (st:=gG i st (stA (outA v.2 bl) v))
  have hBl:=AO (one:=outA v.1 al) (two:=outA v.2 bl) (v:=v)
  have hBm:(outA v.1 al).length*((outA v.2 bl).length+1)<=8192*8193:=Nat.mul_le_mul o1 (by omega)
  have htk:(Bd al bl i st).1.take (i+1)=st.1.take (i+1):=by
   obtain ⟨y,hy⟩:=oI (i:=i) (l:=gB al bl (st.1.getD i default)) (st:=st)
   unfold Bd
   rw [hy,List.take_append_of_le_length (by omega)]
  rw [hrd] at hB ⊢
  rw [<- hft,<- htk]
  have hlt:(iw fs ft ((Bd al bl i st).1.take (i+1))).length=i+1:=by rw [htk,hft,List.length_append,hFl];rfl
  generalize Bd al bl i st=sn at hc1 hnx hB hlt ⊢
  have hrl:sn.1.length<=100000000/\sn.2.length<=100000000:=by omega
  have hFn:(iw fs ft (sn.1.take (i+1))).length<=100000:=by omega
  by_cases w1:2048<sn.1.length
  ·skip
   have hwn:within sn=false:=by simp only [within,decide_eq_false_iff_not];omega
   rw [hwn,if_neg (by decide)] at hc1
   rw [hc1] at hcm
   rw [hcm]
   repeat (first|refine ah ?_|refine dI ?_|refine aW ?_|refine af ?_|refine aU ?_|refine fG (by rfl) ?_|refine ax ?_|refine ak ?_|refine ae ?_|refine bP ?_|refine dH ?_|refine bY ?_)
   refine fJ 0 [1,4] [4,5] (⟨[(4,.pref 0 [] 0),(5,.int .i64 4)],[(0,.optr [.osl 1 0 [],.osl 4 0 []])],1⟩:St) rfl rfl ?_
   refine ay ?_
   exact ⟨_,_,rfl,rfl,rfl⟩
  ·by_cases w2:8192<sn.2.length
   ·skip
    have hwn:within sn=false:=by simp only [within,decide_eq_false_iff_not];omega
    rw [hwn,if_neg (by decide)] at hc1
    rw [hc1] at hcm
    rw [hcm]
    repeat (first|refine ah ?_|refine aT ?_|refine aW ?_|refine af ?_|refine aS ?_|refine fG (by rfl) ?_|refine ax ?_|refine ak ?_|refine ae ?_|refine bP ?_|refine aH ?_|refine dH ?_|refine bY ?_)
    refine fJ 0 [1,4] [4,5] (⟨[(4,.pref 0 [] 0),(5,.int .i64 4)],[(0,.optr [.osl 1 0 [],.osl 4 0 []])],1⟩:St) rfl rfl ?_
    refine ay ?_
    exact ⟨_,_,rfl,rfl,rfl⟩
   ·repeat (first|refine ah ?_|refine aT ?_|refine aW ?_|refine af ?_|refine aS ?_|refine bM ?_|refine fG (by rfl) ?_|refine au ?_|refine ak ?_|refine ae ?_|refine gV ?_|refine aI ?_|refine bP ?_|refine aH ?_)
    exact dS [2,3,4,5,6,7,8,9,10,11,12] (i+1,sn) (hnx (by simp only [within,decide_eq_true_eq];omega)) iH rfl
 ·have hc:=hI.done hi
  rw [hc] at hcm
  rw [hcm]
  obtain rfl:i=st.1.length:=by omega
  rw [List.take_length]
  rw [List.take_length] at hFl
  repeat (first|refine ah ?_|refine aW ?_|refine af ?_|refine aF ?_|refine fG (by rfl) ?_|refine bZ (by rfl) ?_|refine au ?_|refine ak ?_|refine ae ?_)
  refine KA aJ (by rfl) (by rfl) gY (by decide) bF ?_
  repeat (first|refine ah ?_|refine af ?_|refine dH ?_)
  refine ay ?_
  exact ⟨_,_,rfl,rfl,rfl⟩
end Go.Proofs.Ytlbdmpjnmfmnfaa
