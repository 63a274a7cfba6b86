import Derived.Test.YtlbdmpjnmfmnfaaFs7
import Derived.Test.YtlbdmpjnmfmnfaaFs8
import Derived.Test.YtlbdmpjnmfmnfaaHlRo
set_option linter.unusedSimpArgs false
set_option linter.unusedVariables false
namespace Go.Proofs.Ytlbdmpjnmfmnfaa
open Go.RowKit Go.HL Go.FS
theorem Bv:∀ {l m:List Bool},HL.bools l=HL.bools m->l=m
 | [],[],_=>rfl
 | [],_::_,h=>by cases h
 | _::_,[],h=>by cases h
 | a::l,b::m,h=>by
  simp only [HL.bools,List.map_cons,List.cons.injEq,HV.bool.injEq] at h
  rw [h.1,Bv h.2]
theorem Fp:∀ {l m:List A},recs aC l=recs aC m->l=m
 | [],[],_=>rfl
 | [],_::_,h=>by cases h
 | _::_,[],h=>by cases h
 | ⟨a1,a2,a3,a4⟩::l,⟨b1,b2,b3,b4⟩::m,h=>by
  simp only [recs,List.flatMap_cons,aC,List.cons_append,List.nil_append,List.cons.injEq,HV.int.injEq,true_and] at h
  obtain ⟨rfl,rfl,rfl,rfl,h⟩:=h
  rw [Fp h]
theorem EU {f g:List Bool} {l m:List A} (h:iC f l=iC g m):f=g/\l=m:=by
 simp only [iC,jX,List.cons.injEq,HV.sl.injEq,and_true] at h
 exact ⟨Bv h.1.2,Fp h.2.2⟩
def frD (args:List HV) (r:HV):Prop:=∃fin al,args=[.agg (iC fin al)]/\r=.osl 1 fin.length (gp (bT (·.f) fin.length al))
theorem Nz {fin:List Bool} {al:List A} {r:HV} (h:frD [.agg (iC fin al)] r):r=.osl 1 fin.length (gp (bT (·.f) fin.length al)):=by
 obtain ⟨f,l,h1,rfl⟩:=h
 simp only [List.cons.injEq,HV.agg.injEq,and_true] at h1
 obtain ⟨rfl,rfl⟩:=EU h1
 rfl
theorem Qp (fin:List Bool) (al:List A) (hv:okF fin al=true):HT Try.prog 64 [.agg (iC fin al)] (frD [.agg (iC fin al)]) :=
 (JJ fin al hv).mono fun r h=>⟨fin,al,rfl,h⟩
theorem zF (ll:List (List A)):bF (gp ll)=[]:=by
 induction ll with
 | nil=>rfl
 | cons l ll ih=>simp only [gp,List.map_cons,bF,HV.deep,wV (g:=aC) (fun _=>rfl),List.nil_append] at ih ⊢;exact ih
theorem yY:ug ⟨.ints 2,none⟩ [] [] (.agg [.int .i64 0,.int .i64 0]) (.int .i64 0)=.omap ⟨.ints 2,none⟩ [.agg [.int .i64 0,.int .i64 0]] [.int .i64 0]:=rfl
def uh (fs ft:List Bool) (al bl:List A):(List Bool×List A)×Int :=
 if okF fs al=true/\okF ft bl=true then
  match vI al bl with
  | some st=>((iK fs ft st.1,st.2),0)
  | none=>(([],[]),4)
 else (([],[]),1)
theorem QE {α:Type} {P:Program} {k:List HI} {Q:HE->St->Prop} {G:Prop} (σ:α->St) (Inv:α->Prop) (use:(∀a,Inv a->hx P k Q (σ a))->G) (key:∀a,Inv a->hx P k Q (σ a)):G:=use key
theorem Cm {fs ft:List Bool} {l:List Nd} {i:Nat} (h:i<l.length):iK fs ft (l.take (i+1))=iK fs ft (l.take i)++[fs.getD (l.getD i default).1.toNat false&&ft.getD (l.getD i default).2.toNat false]:=by
 unfold iK
 rw [dw h,List.map_append];rfl
theorem y5 {n:Nat} {l:List A} {p:Int} (h0:0<=p) (h:p<n):(bT (·.f) n l).getD p.toNat []=outA p l:=by
 rw [lu _ _ (by omega)]
 unfold outA
 rw [Int.toNat_of_nonneg h0]
structure CI (fs ft:List Bool) (al bl:List A) (i:Nat) (st:CS):Prop where
 le:i<=st.1.length
 l1:st.1.length<=2048
 l2:st.2.length<=8192
 in_:∀v∈st.1,Qh fs.length ft.length v
 go:oI al bl (2100 - i) i st=vI al bl
theorem CI.pair {fs ft:List Bool} {al bl:List A} {i:Nat} {st:CS} (h:CI fs ft al bl i st) (hi:i<st.1.length):Qh fs.length ft.length (st.1.getD i default):=by
 refine h.in_ _ ?_
 rw [List.getD_eq_getElem?_getD,List.getElem?_eq_getElem hi];exact List.getElem_mem hi
theorem CI.step {fs ft:List Bool} {al bl:List A} {i:Nat} {st:CS} (h:CI fs ft al bl i st) (hi:i<st.1.length):vI al bl=if within (EC al bl i st)=true then oI al bl (2100 - (i+1)) (i+1) (EC al bl i st) else none:=by
 have h1:=h.go
 have h2:=h.l1
 rw [show 2100 - i=(2100 - (i+1))+1 by omega,oI,if_pos hi] at h1
 exact h1.symm
theorem CI.next {fs ft:List Bool} {al bl:List A} {i:Nat} {st:CS} (ho1:okF fs al=true) (ho2:okF ft bl=true) (h:CI fs ft al bl i st) (hi:i<st.1.length) (hw:within (EC al bl i st)=true):CI fs ft al bl (i+1) (EC al bl i st):=by
 have h1:=h.step hi
 rw [if_pos hw] at h1
 have hw':=hw
 simp only [within,decide_eq_true_eq] at hw'
 obtain ⟨x,hx⟩:=o7 (i:=i) (l:=iH al bl (st.1.getD i default)) (st:=st)
 refine ⟨?_,hw'.1,hw'.2,?_,h1.symm⟩
 ·show i+1<=(ig i st _).1.length
  rw [hx,List.length_append];omega
 ·refine CE h.in_ (zh (fun a ha=>?_) (fun b hb=>?_) (h.pair hi))
  ·have:=dh ho1 ha;omega
  ·have:=dh ho2 hb;omega
theorem CI.done {fs ft:List Bool} {al bl:List A} {i:Nat} {st:CS} (h:CI fs ft al bl i st) (hi:¬ i<st.1.length):vI al bl=some st:=by
 have h1:=h.go
 have h2:=h.l1
 have h3:=h.le
 rw [show 2100 - i=(2100 - (i+1))+1 by omega,oI,if_neg hi] at h1
 exact h1.symm
theorem CI.start {fs ft:List Bool} {al bl:List A} (h1:1<=fs.length) (h2:1<=ft.length):CI fs ft al bl 0 ([(0,0)],[]) :=
 ⟨by simp,by simp,by simp,fun v hv=>by simp only [List.mem_singleton] at hv;subst hv;exact ⟨by simp,by simp only;omega,by simp,by simp only;omega⟩,rfl⟩
set_option maxHeartbeats 8000000 in
theorem KP (fs ft:List Bool) (al bl:List A) (ho1:okF fs al=true) (ho2:okF ft bl=true) :
  hx Try.prog [.c (.loop NT),.b 0,.c OZ] (finish [4,5] (KC [.c 4 true 2,.t 5] fun r=>r=.tup [.agg (zB (uh fs ft al bl).1.1 (uh fs ft al bl).1.2),.int .i64 (uh fs ft al bl).2]))
   ⟨[(2,.ptr [.sl fs.length (HL.bools fs),.sl al.length (recs aC al)] 0),(3,.ptr [.sl ft.length (HL.bools ft),.sl bl.length (recs aC bl)] 0),(4,.pref 0 [] 0),(5,.int .i64 0),(6,.sl fs.length (fO (bT (·.f) fs.length al))),(7,.sl ft.length (fO (bT (·.f) ft.length bl))),(8,.pref 1 [] 0),(9,.pref 2 [] 0),(10,.pref 3 [] 0),(11,.fn 65 [.pref 1 [] 0,.pref 2 [] 0,.pref 3 [] 0]),(12,.int .i64 0)],[(0,.optr [.nils,.nils]),(1,jY [(0,0)]),(2,ku [(0,0)]),(3,jO [] [])],4⟩:=by
 obtain ⟨a1,a2,a3⟩:=dR ho1
 obtain ⟨b1,b2,b3⟩:=dR ho2
 have hl1:=iY (·.f) fs.length al
 have hl2:=iY (·.f) ft.length bl
 have hcm:uh fs ft al bl=match vI al bl with|some st=>((iK fs ft st.1,st.2),0)|none=>(([],[]),4):=by unfold uh;rw [if_pos ⟨ho1,ho2⟩]
 refine cu [2,3,4,5,6,7,8,9,10,11,12] (fun s:Nat×CS=>CI fs ft al bl s.1 s.2)
  (fun s=>⟨[(2,.ptr [.sl fs.length (HL.bools fs),.sl al.length (recs aC al)] 0),(3,.ptr [.sl ft.length (HL.bools ft),.sl bl.length (recs aC bl)] 0),(4,.pref 0 [] 0),(5,.int .i64 0),(6,.sl fs.length (fO (bT (·.f) fs.length al))),(7,.sl ft.length (fO (bT (·.f) ft.length bl))),(8,.pref 1 [] 0),(9,.pref 2 [] 0),(10,.pref 3 [] 0),(11,.fn 65 [.pref 1 [] 0,.pref 2 [] 0,.pref 3 [] 0]),(12,.int .i64 s.1)],[(0,.optr [.nils,.nils]),(1,jY s.2.1),(2,ku s.2.1),(3,jO (iK fs ft (s.2.1.take s.1)) s.2.2)],4⟩)
  (fun s=>2100 - s.1) (0,([(0,0)],[])) (.start a1 b1) rfl ?_
 rintro ⟨i,st⟩ hI
 simp only at hI ⊢
 have q1:=hI.le
 have q2:=hI.l1
 have q3:=hI.l2
 have hFl:(iK fs ft (st.1.take i)).length=i:=by simp only [iK,List.length_map,List.length_take];omega
 by_cases hi:i<st.1.length
 ·have hv:=hI.pair hi
  have hft:=Cm (fs:=fs) (ft:=ft) hi
  have hr1:=y5 (l:=al) hv.1 hv.2.1
  have hr2:=y5 (l:=bl) hv.2.2.1 hv.2.2.2
  have hc1:=hI.step hi
  have hnx:=hI.next ho1 ho2 hi
  generalize hFe:iK fs ft (st.1.take i)=F at hFl hft ⊢
  obtain ⟨v,hve⟩:∃v,st.1.getD i default=v:=⟨_,rfl⟩
  rw [hve] at hv hft hr1 hr2
  obtain ⟨v1,v2,v3,v4⟩:=hv
  repeat (first|refine ah ?_|refine gG ?_|refine gJ (by rfl) bV (by (try simp (disch:=omega) only [go_sem,reduceIte,Nat.reduceEqDiff,Nat.reduceAdd,Nat.reduceMul,hve]);try rfl) aW (by (try simp (disch:=omega) only [go_sem,hve]);try rfl) aV ?_|refine af ?_|refine az ?_|refine fF (by rfl) ?_|refine ax ?_|refine ak ?_|refine ae ?_|refine aB ?_|refine aF ?_|refine jF (by rfl) bV aP aW (by decide) (by (try simp (disch:=omega) only [go_sem,reduceIte,Nat.reduceEqDiff,Nat.reduceAdd,Nat.reduceMul,hve]);try rfl) ja ?_|refine uy (by rfl) aV aP ja (by rfl) (by decide) bV aP aW (by (try simp (disch:=omega) only [go_sem,hve]);try rfl) aP ?_|refine bP eH ?_)
  refine bg 132 [2,3,4,5,6,7,8,9,10,11,12,13] ⟨[(2,.ptr [.sl fs.length (HL.bools fs),.sl al.length (recs aC al)] 0),(3,.ptr [.sl ft.length (HL.bools ft),.sl bl.length (recs aC bl)] 0),(4,.pref 0 [] 0),(5,.int .i64 0),(6,.sl fs.length (fO (bT (·.f) fs.length al))),(7,.sl ft.length (fO (bT (·.f) ft.length bl))),(8,.pref 1 [] 0),(9,.pref 2 [] 0),(10,.pref 3 [] 0),(11,.fn 65 [.pref 1 [] 0,.pref 2 [] 0,.pref 3 [] 0]),(12,.int .i64 i),(13,.ptr [.int .i64 v.1,.int .i64 v.2] 0)],[(0,.optr [.nils,.nils]),(1,jY st.1),(2,ku st.1),(3,jO F st.2)],4⟩ rfl ?_
  have o1:(outA v.1 al).length<=8192:=Nat.le_trans (List.length_filter_le _ _) a3
  have o2:(outA v.2 bl).length<=8192:=Nat.le_trans (List.length_filter_le _ _) b3
  have hF1:(F++[fs.getD v.1.toNat false&&ft.getD v.2.toNat false]).length=i+1:=by simp [hFl]
  apply QE (P:=Try.prog) (fun _:Unit=>(⟨[(2,.ptr [.sl fs.length (HL.bools fs),.sl al.length (recs aC al)] 0),(3,.ptr [.sl ft.length (HL.bools ft),.sl bl.length (recs aC bl)] 0),(4,.pref 0 [] 0),(5,.int .i64 0),(6,.sl fs.length (fO (bT (·.f) fs.length al))),(7,.sl ft.length (fO (bT (·.f) ft.length bl))),(8,.pref 1 [] 0),(9,.pref 2 [] 0),(10,.pref 3 [] 0),(11,.fn 65 [.pref 1 [] 0,.pref 2 [] 0,.pref 3 [] 0]),(12,.int .i64 i),(13,.ptr [.int .i64 v.1,.int .i64 v.2] 0)],[(0,.optr [.nils,.nils]),(1,jY st.1),(2,ku st.1),(3,jO (F++[fs.getD v.1.toNat false&&ft.getD v.2.toNat false]) st.2)],4⟩:St)) (fun _=>True)
  ·intro key
   refine jP [2,3,13] [10] aT aT (fun _ _ _=>False) (by simp [aG,HV.deep,bF,fM,fB]) (by simp [aG,HV.deep,bF]) ?_
   cases c1:fs.getD v.1.toNat false with
   | false =>
    rw [c1] at key hF1
    repeat (first|refine ah ?_|refine dH ?_|refine aU ?_|refine jb (by rfl) aW (by (try simp (disch:=omega) only [go_sem,c1]);try rfl) ?_|refine gJ (by rfl) bV (by (try simp (disch:=omega) only [go_sem,reduceIte,Nat.reduceEqDiff,Nat.reduceAdd,Nat.reduceMul,c1]);try rfl) aW (by (try simp (disch:=omega) only [go_sem,c1]);try rfl) aV ?_|refine af ?_|refine aO ?_|refine dE ?_|refine aI ?_|refine lY (by rfl) aV aP jG mD (by rfl) mO (by rfl) mV (by (try simp (disch:=omega) only [go_sem,reduceIte,Nat.reduceEqDiff,Nat.reduceAdd,Nat.reduceMul,c1]);try rfl) aW (by (try simp (disch:=omega) only [go_sem,c1]);try rfl) aP jM ?_|refine bQ ?_|refine lD eH (by rfl) aV uS (by (try simp (disch:=omega) only [go_sem,reduceIte,Nat.reduceEqDiff,Nat.reduceAdd,Nat.reduceMul,c1]);try omega) bV (by (try simp (disch:=omega) only [go_sem,reduceIte,Nat.reduceEqDiff,Nat.reduceAdd,Nat.reduceMul,c1]);try rfl) eH (by omega) iU aW (by (try simp (disch:=omega) only [go_sem,reduceIte,Nat.reduceEqDiff,Nat.reduceAdd,Nat.reduceMul,c1]);try rfl) aP ?_)
    exact dV [2,3,4,5,6,7,8,9,10,11,12,13] _ (by unfold jO;rw [List.length_append];rfl) (key () trivial)
   | true =>
    rw [c1] at key hF1
    cases c2:ft.getD v.2.toNat false with
    | false =>
     rw [c2] at key hF1
     repeat (first|refine ah ?_|refine aK ?_|refine aU ?_|refine jb (by rfl) aW (by (try simp (disch:=omega) only [go_sem,c1,c2]);try rfl) ?_|refine gJ (by rfl) bV (by (try simp (disch:=omega) only [go_sem,reduceIte,Nat.reduceEqDiff,Nat.reduceAdd,Nat.reduceMul,c1,c2]);try rfl) aW (by (try simp (disch:=omega) only [go_sem,c1,c2]);try rfl) aV ?_|refine af ?_|refine aS ?_|refine dE ?_|refine aI ?_|refine lY (by rfl) aV aP jG mD (by rfl) mO (by rfl) mV (by (try simp (disch:=omega) only [go_sem,reduceIte,Nat.reduceEqDiff,Nat.reduceAdd,Nat.reduceMul,c1,c2]);try rfl) aW (by (try simp (disch:=omega) only [go_sem,c1,c2]);try rfl) aP jM ?_|refine bQ ?_|refine lD eH (by rfl) aV uS (by (try simp (disch:=omega) only [go_sem,reduceIte,Nat.reduceEqDiff,Nat.reduceAdd,Nat.reduceMul,c1,c2]);try omega) bV (by (try simp (disch:=omega) only [go_sem,reduceIte,Nat.reduceEqDiff,Nat.reduceAdd,Nat.reduceMul,c1,c2]);try rfl) eH (by omega) iU aW (by (try simp (disch:=omega) only [go_sem,reduceIte,Nat.reduceEqDiff,Nat.reduceAdd,Nat.reduceMul,c1,c2]);try rfl) aP ?_)
     exact dV [2,3,4,5,6,7,8,9,10,11,12,13] _ (by unfold jO;rw [List.length_append];rfl) (key () trivial)
    | true =>
     rw [c2] at key hF1
     repeat (first|refine ah ?_|refine aK ?_|refine aU ?_|refine jb (by rfl) aW (by (try simp (disch:=omega) only [go_sem,c1,c2]);try rfl) ?_|refine gJ (by rfl) bV (by (try simp (disch:=omega) only [go_sem,reduceIte,Nat.reduceEqDiff,Nat.reduceAdd,Nat.reduceMul,c1,c2]);try rfl) aW (by (try simp (disch:=omega) only [go_sem,c1,c2]);try rfl) aV ?_|refine af ?_|refine aS ?_|refine dE ?_|refine aI ?_|refine lY (by rfl) aV aP jG mD (by rfl) mO (by rfl) mV (by (try simp (disch:=omega) only [go_sem,reduceIte,Nat.reduceEqDiff,Nat.reduceAdd,Nat.reduceMul,c1,c2]);try rfl) aW (by (try simp (disch:=omega) only [go_sem,c1,c2]);try rfl) aP jM ?_|refine bQ ?_|refine lD eH (by rfl) aV uS (by (try simp (disch:=omega) only [go_sem,reduceIte,Nat.reduceEqDiff,Nat.reduceAdd,Nat.reduceMul,c1,c2]);try omega) bV (by (try simp (disch:=omega) only [go_sem,reduceIte,Nat.reduceEqDiff,Nat.reduceAdd,Nat.reduceMul,c1,c2]);try rfl) eH (by omega) iU aW (by (try simp (disch:=omega) only [go_sem,reduceIte,Nat.reduceEqDiff,Nat.reduceAdd,Nat.reduceMul,c1,c2]);try rfl) aP ?_)
     exact dV [2,3,4,5,6,7,8,9,10,11,12,13] _ (by unfold jO;rw [List.length_append];rfl) (key () trivial)
  rintro - -
  have hrd:ig i (ig i st (stA (outA v.2 bl) v)) ((outA v.1 al).flatMap fun a=>y9 a (outA v.2 bl) v)=EC al bl i st:=by
   rw [<- wC];unfold EC iH OV;rw [hve]
  have hA:=nG (i:=i) (l:=stA (outA v.2 bl) v) (st:=st)
  have hAl:=BQ (two:=outA v.2 bl) (v:=v)
  repeat (first|refine ah ?_|refine aU ?_|refine jb (by rfl) aW (by (try simp (disch:=omega) only [go_sem,hr2]);try rfl) ?_|refine af ?_|refine aQ ?_|refine ak ?_|refine ae ?_|refine aB ?_|refine dE ?_)
  refine dV [2,3,4,5,6,7,8,9,10,11,12,13,72,73,74] ⟨[(2,.ptr [.sl fs.length (HL.bools fs),.sl al.length (recs aC al)] 0),(3,.ptr [.sl ft.length (HL.bools ft),.sl bl.length (recs aC bl)] 0),(4,.pref 0 [] 0),(5,.int .i64 0),(6,.sl fs.length (fO (bT (·.f) fs.length al))),(7,.sl ft.length (fO (bT (·.f) ft.length bl))),(8,.pref 1 [] 0),(9,.pref 2 [] 0),(10,.pref 3 [] 0),(11,.fn 65 [.pref 1 [] 0,.pref 2 [] 0,.pref 3 [] 0]),(12,.int .i64 i),(13,.ptr [.int .i64 v.1,.int .i64 v.2] 0),(72,.sl (outA v.2 bl).length (recs aC (outA v.2 bl))),(73,.int .i64 (outA v.2 bl).length),(74,.int .i64 0)],[(0,.optr [.nils,.nils]),(1,jY st.1),(2,ku st.1),(3,jO (F++[fs.getD v.1.toNat false&&ft.getD v.2.toNat false]) st.2)],4⟩ rfl ?_
  refine Xg _ _ _ _ _ _ i v (outA v.2 bl) (F++[fs.getD v.1.toNat false&&ft.getD v.2.toNat false]) st o2 (by omega) (by omega) (by omega) ?_
  repeat (first|refine ah ?_|refine aU ?_|refine jb (by rfl) aW (by (try simp (disch:=omega) only [go_sem,hr1]);try rfl) ?_|refine af ?_|refine aQ ?_|refine ak ?_|refine ae ?_|refine aB ?_|refine dE ?_)
  refine dV [2,3,4,5,6,7,8,9,10,11,12,13,96,97,98] ⟨[(2,.ptr [.sl fs.length (HL.bools fs),.sl al.length (recs aC al)] 0),(3,.ptr [.sl ft.length (HL.bools ft),.sl bl.length (recs aC bl)] 0),(4,.pref 0 [] 0),(5,.int .i64 0),(6,.sl fs.length (fO (bT (·.f) fs.length al))),(7,.sl ft.length (fO (bT (·.f) ft.length bl))),(8,.pref 1 [] 0),(9,.pref 2 [] 0),(10,.pref 3 [] 0),(11,.fn 65 [.pref 1 [] 0,.pref 2 [] 0,.pref 3 [] 0]),(12,.int .i64 i),(13,.ptr [.int .i64 v.1,.int .i64 v.2] 0),(96,.sl (outA v.1 al).length (recs aC (outA v.1 al))),(97,.int .i64 (outA v.1 al).length),(98,.int .i64 0)],[(0,.optr [.nils,.nils]),(1,jY (ig i st (stA (outA v.2 bl) v)).1),(2,ku (ig i st (stA (outA v.2 bl) v)).1),(3,jO (F++[fs.getD v.1.toNat false&&ft.getD v.2.toNat false]) (ig i st (stA (outA v.2 bl) v)).2)],4⟩ rfl ?_
  refine Ux _ _ _ _ _ _ i v (outA v.1 al) (outA v.2 bl) (F++[fs.getD v.1.toNat false&&ft.getD v.2.toNat false]) _ o1 o2 (by omega) (by omega) (by omega) v3 v4 (by rw [xk,hl2]) (by rw [AV _ (by omega),hr2]) ?_
  have hB:=nG (i:=i) (l:=(outA v.1 al).flatMap fun a=>y9 a (outA v.2 bl) v) (st:=ig i st (stA (outA v.2 bl) v))
  have hBl:=BD (one:=outA v.1 al) (two:=outA v.2 bl) (v:=v)
  have hBm:(outA v.1 al).length*((outA v.2 bl).length+1)<=8192*8193:=Nat.mul_le_mul o1 (by omega)
  have htk:(EC al bl i st).1.take (i+1)=st.1.take (i+1):=by
   obtain ⟨y,hy⟩:=o7 (i:=i) (l:=iH al bl (st.1.getD i default)) (st:=st)
   unfold EC
   rw [hy,List.take_append_of_le_length (by omega)]
  rw [hrd] at hB ⊢
  rw [<- hft,<- htk]
  have hlt:(iK fs ft ((EC al bl i st).1.take (i+1))).length=i+1:=by rw [htk,hft,List.length_append,hFl];rfl
  generalize EC al bl i st=sn at hc1 hnx hB hlt ⊢
  have hrl:sn.1.length<=100000000/\sn.2.length<=100000000:=by omega
  have hFn:(iK fs ft (sn.1.take (i+1))).length<=100000:=by omega
  by_cases w1:2048<sn.1.length
  ·skip
   have hwn:within sn=false:=by simp only [within,decide_eq_false_iff_not];omega
   rw [hwn,if_neg (by decide)] at hc1
   rw [hc1] at hcm
   rw [hcm]
   repeat (first|refine ah ?_|refine dH ?_|refine aZ ?_|refine af ?_|refine aS ?_|refine fF (by rfl) ?_|refine ax ?_|refine ak ?_|refine ae ?_|refine dm ?_|refine cO ?_|refine di ?_)
   refine fD 0 [1,4] [4,5] (⟨[(4,.pref 0 [] 0),(5,.int .i64 4)],[(0,.optr [.osl 1 0 [],.osl 4 0 []])],1⟩:St) rfl rfl ?_
   refine ay ?_
   exact ⟨_,_,rfl,rfl,rfl⟩
  ·by_cases w2:8192<sn.2.length
   ·skip
    have hwn:within sn=false:=by simp only [within,decide_eq_false_iff_not];omega
    rw [hwn,if_neg (by decide)] at hc1
    rw [hc1] at hcm
    rw [hcm]
    repeat (first|refine ah ?_|refine aK ?_|refine aZ ?_|refine af ?_|refine aO ?_|refine fF (by rfl) ?_|refine ax ?_|refine ak ?_|refine ae ?_|refine dm ?_|refine aI ?_|refine cO ?_|refine di ?_)
    refine fD 0 [1,4] [4,5] (⟨[(4,.pref 0 [] 0),(5,.int .i64 4)],[(0,.optr [.osl 1 0 [],.osl 4 0 []])],1⟩:St) rfl rfl ?_
    refine ay ?_
    exact ⟨_,_,rfl,rfl,rfl⟩
   ·repeat (first|refine ah ?_|refine aK ?_|refine aZ ?_|refine af ?_|refine aO ?_|refine bH ?_|refine fF (by rfl) ?_|refine au ?_|refine ak ?_|refine ae ?_|refine fK ?_|refine aF ?_|refine dm ?_|refine aI ?_)
    exact dB [2,3,4,5,6,7,8,9,10,11,12] (i+1,sn) (hnx (by simp only [within,decide_eq_true_eq];omega)) jh rfl
 ·have hc:=hI.done hi
  rw [hc] at hcm
  rw [hcm]
  obtain rfl:i=st.1.length:=by omega
  rw [List.take_length]
  rw [List.take_length] at hFl
  repeat (first|refine ah ?_|refine aZ ?_|refine af ?_|refine az ?_|refine fF (by rfl) ?_|refine bK (by rfl) ?_|refine au ?_|refine ak ?_|refine ae ?_)
  refine O5 aV (by rfl) (by rfl) fU (by decide) bu ?_
  repeat (first|refine ah ?_|refine af ?_|refine cO ?_)
  refine ay ?_
  exact ⟨_,_,rfl,rfl,rfl⟩
end Go.Proofs.Ytlbdmpjnmfmnfaa
