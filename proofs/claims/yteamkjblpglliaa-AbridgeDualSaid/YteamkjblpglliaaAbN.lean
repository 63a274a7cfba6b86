import Derived.Test.YteamkjblpglliaaAbG
import Derived.Test.YteamkjblpglliaaFlChk
import Derived.Test.YteamkjblpglliaaCodes1
section
set_option linter.unusedSimpArgs false
set_option linter.unusedVariables false
namespace Go.HL
open Go.RowKit
theorem Weak.reBox {s:St} (id:Nat) {cs:List HV} (cs':List HV) (hw:∀ (F:Nat->Prop) (h:Hp) (rvs:List Value) (fs:List Nat),OW F h dN cs rvs fs->OW F h dN cs' rvs fs) (hid:s.M id=.optr cs):Weak s ⟨s.sl.map fun p=>(p.1,p.2.kill id 0),(id,.optr cs')::s.st,s.nx⟩:=by
 intro E a w ⟨loc,fp,hr⟩
 have hM:∀k,(⟨s.sl.map fun p=>(p.1,p.2.kill id 0),(id,.optr cs')::s.st,s.nx⟩:St).M k=if id=k then .optr cs' else s.M k:=fun k=>rfl
 obtain ⟨-,hk⟩:=hr.kill id 0
 refine ⟨loc,fp,⟨hr.below,hr.base,hr.size,fun k hkd=>?_,fun k hkd=>?_,fun k hkn=>?_,hr.nodup,hr.apart,hr.fresh,fun t=>?_,hr.defers⟩⟩
 ·rw [hM] at hkd ⊢
  by_cases e:id=k
  ·subst e
   rw [if_pos rfl]
   have htr:=hr.tree id (by rw [hid];simp)
   rw [hid] at htr
   generalize hl:loc id=lv at htr ⊢
   generalize hf:fp id=fs at htr ⊢
   cases htr with
   | leaf _ _ h3=>exact absurd rfl (h3 _)
   | optr h1 h2 h3=>exact .optr h1 (hw _ _ _ _ h2) h3
  ·rw [if_neg e] at hkd ⊢
   exact hr.tree k hkd
 ·rw [hM] at hkd
  by_cases e:id=k
  ·subst e;rw [if_pos rfl] at hkd;cases hkd
  ·rw [if_neg e] at hkd;exact hr.gone k hkd
 ·rw [hM]
  by_cases e:id=k
  ·subst e
   have:=hr.new id hkn
   rw [hid] at this;cases this
  ·rw [if_neg e];exact hr.new k hkn
 ·have hS:(⟨s.sl.map fun p=>(p.1,p.2.kill id 0),(id,.optr cs')::s.st,s.nx⟩:St).S t=(s.S t).kill id 0:=by
   show aX t (s.sl.map _)=_
   unfold St.S
   generalize s.sl=l
   induction l with
   | nil=>rfl
   | cons p r ih =>
    obtain ⟨k,v⟩:=p
    simp only [List.map_cons,aX]
    split
    ·rfl
    ·exact ih
  rw [hS]
  refine (hk t).stable (fun _ _=>rfl) (fun _ h=>⟨h,rfl⟩) ?_
  rintro v rv ⟨hv,hc⟩
  obtain ⟨i,hi,hilt⟩:=hv.isRef
  by_cases e:i=id
  ·subst e
   cases v<;>simp only [fG,Option.some.injEq,reduceCtorEq] at hi
   ·subst hi
    rename_i p sz off n
    obtain ⟨a1,a2,a0,a4,a3⟩:=hv
    have hp:p=[]:=by
     have:=hc _ p (.inl ⟨_,_,_,rfl⟩)
     cases p with
     | nil=>rfl
     | cons=>exact absurd ⟨rfl,by simp⟩ this
    subst hp
    have:s.M _=.optr cs:=hid
    exact absurd this (a4 cs)
   ·subst hi
    rename_i p off
    obtain ⟨a1,a2,a0,a3⟩:=hv
    have hp:p=[]:=by
     have:=hc _ p (.inr ⟨_,rfl⟩)
     cases p with
     | nil=>rfl
     | cons=>exact absurd ⟨rfl,by simp⟩ this
    subst hp
    refine ⟨a1,a2,a0,fun _=>?_⟩
    have h1:s.M _=.optr cs:=hid
    exact a3 (by show isNode (s.M _);rw [h1];trivial)
  ·exact hv.stay hr (Nat.le_refl _) hi (by rw [hM,if_neg (fun h=>e h.symm)]) rfl (fun _ _=>rfl)
theorem Na {P:Program} {k:List HI} {Q:HE->St->Prop} {x:HCode} {sl st:List (Nat×HV)} {nx:Nat} (id:Nat) (cs':List HV) (keep:List Nat) {cs:List HV} (s0:St) (hw:∀ (F:Nat->Prop) (h:Hp) (rvs:List Value) (fs:List Nat),OW F h dN cs rvs fs->OW F h dN cs' rvs fs) (hid:aX id st=.optr cs)
  (hn:norm2 keep ⟨sl.map fun p=>(p.1,p.2.kill id 0),(id,.optr cs')::st,nx⟩=s0) (h:hx P (.c x::k) Q s0):hx P (.c x::k) Q ⟨sl,st,nx⟩ :=
 lM ((Weak.reBox (s:=⟨sl,st,nx⟩) id cs' hw hid).trans (hn▸Weak.norm2 keep _)) h
def dn0:HV->HV
 | .nils=>.sl 0 []
 | v=>v
def dn1:HV->HV
 | .nils=>.sl 0 []
 | .sl n cs=>.sl n (cs.map dn0)
 | v=>v
section
variable {F:Nat->Prop} {h:Hp} {R:HV->Value->Prop}
theorem Hr {vs:List HV} {rvs:List Value} {fs:List Nat} (o:OW F h R vs rvs fs):OW F h R (vs.map dn0) rvs fs:=by
 induction o with
 | nil=>exact .nil
 | @leaf R v rv r rr fs a b c d e f g _ ih =>
  have:dn0 v=v:=by cases v<;>simp [iC] at a<;>rfl
  rw [List.map_cons,this]
  exact .leaf a b c d e f g ih
 | int _ ih=>exact .int ih
 | bool _ ih=>exact .bool ih
 | str _ ih=>exact .str ih
 | nils _ ih=>exact .sl0 ih
 | nilp _ ih=>exact .nilp ih
 | nilf _ ih=>exact .nilf ih
 | dead _ ih=>exact .dead ih
 | sl0 _ ih=>exact .sl0 ih
 | sl a b c d e _ _ ih=>exact .sl a b c d e ih
 | osl0 _ ih=>exact .osl0 ih
 | osl a b c d e f g _ _ ih=>exact .osl a b c d e f g ih
 | ptr a b c d _ _ ih=>exact .ptr a b c d ih
 | optr a b _ _ ih=>exact .optr a b ih
 | agg a _ _ ih=>exact .agg a ih
 | tup a _ _ ih=>exact .tup a ih
 | fn a _ _ ih=>exact .fn a ih
theorem Oo {vs:List HV} {rvs:List Value} {fs:List Nat} (o:OW F h R vs rvs fs):OW F h R (vs.map dn1) rvs fs:=by
 induction o with
 | nil=>exact .nil
 | @leaf R v rv r rr fs a b c d e f g _ ih =>
  have:dn1 v=v:=by cases v<;>simp [iC] at a<;>rfl
  rw [List.map_cons,this]
  exact .leaf a b c d e f g ih
 | int _ ih=>exact .int ih
 | bool _ ih=>exact .bool ih
 | str _ ih=>exact .str ih
 | nils _ ih=>exact .sl0 ih
 | nilp _ ih=>exact .nilp ih
 | nilf _ ih=>exact .nilf ih
 | dead _ ih=>exact .dead ih
 | sl0 _ ih=>exact .sl0 ih
 | sl a b c d e _ _ ih=>exact .sl a b (by rw [List.length_map];exact c) d (Hr e) ih
 | osl0 _ ih=>exact .osl0 ih
 | osl a b c d e f g _ _ ih=>exact .osl a b c d e f g ih
 | ptr a b c d _ _ ih=>exact .ptr a b c d ih
 | optr a b _ _ ih=>exact .optr a b ih
 | agg a _ _ ih=>exact .agg a ih
 | tup a _ _ ih=>exact .tup a ih
 | fn a _ _ ih=>exact .fn a ih
end
theorem HT.arg {P:Program} {f:FuncId} {args args':List HV} {K:HV->Prop} (hw:∀ (F:Nat->Prop) (h:Hp) (rvs:List Value),OW F h dN args' rvs []->OW F h dN args rvs []) (h:HT P f args K):HT P f args' K :=
 ⟨h.1,fun w rargs F hF ho=>h.2 w rargs F hF (hw _ _ _ ho)⟩
theorem NG {F:Nat->Prop} {h:Hp} {vs vs':List HV} (hw:∀ (rvs:List Value) (fs:List Nat),OW F h dN vs rvs fs->OW F h dN vs' rvs fs) {r:List HV} {rvs:List Value} {fs:List Nat} (o:OW F h dN (.agg vs::r) rvs fs):OW F h dN (.agg vs'::r) rvs fs:=by
 cases o with
 | leaf a b c d=>exact absurd rfl (d _)
 | agg a b=>exact .agg (hw _ _ a) b
end Go.HL
end
section
set_option linter.unusedSimpArgs false
set_option linter.unusedVariables false
namespace Go.HL
open Go.RowKit
theorem NM {P:Program} {C:CallSpec} {all r:List aS} {i:Nat} {k:List HI} {rs:List Nat} {K:HV->Prop} {sl sl' st st':List (Nat×HV)} {nx:Nat} {x:HX} {t:Nat} {v:HV} {cs0 cs:List HV} {us:List Upd} {sd:Prop} {sz fr:Nat} [ok:Ok C k] (hf:nx+stride*i=fr) (hv:ev sl x=v) (hcs:cellsOf v=cs0) (ht:fO (fun j=>aX j st) cs0=(cs,us,sd)) (hs:sd) (hz:cs.length=sz) (hu:sQ sl st us=(sl',st'))
  (h:G P C all r (i+1) k rs K ((t,.pref fr [] 0)::sl') ((fr,.optr cs)::st') nx):G P C all (⟨some t,.newv sz x,none⟩::r) i k rs K sl st nx:=by
 subst hf
 refine gV ok.mono ok.plain (v:=.pref (nx+stride*i) [] 0) (us:=us++[.put (nx+stride*i) (.optr cs)]) (side:=sd/\cs.length=sz) rfl (by rw [HOp.map,hv]) ?_ ⟨hs,hz⟩ (by rw [tY,hu];rfl) h
 subst hcs
 simp only [aU]
 rw [ht]
end Go.HL
end
section
set_option linter.unusedSimpArgs false
set_option linter.unusedVariables false
namespace Go.HL
open Go.RowKit
def Wv (masks:List Nat) (all:List aS) (i:Nat) (o:aS) (W R:List Nat) (log:lm):Bool :=
 log.all fun q=>pV masks q.1 i || pV masks i q.1 || (match all[q.1]? with|some o'=>!uC o' o|none=>true) || (W.all (fun x=>!q.2.2.contains x)&&q.2.1.all (fun x=>!R.contains x))
def zl (masks:List Nat) (all:List aS):List aS->Nat->lm->(St->Prop)->St->Prop
 | [],_,_,K,s=>K s
 | o::r,i,log,K,s=>o.guard=none/\o.op.isCall=false/\(aU s.M (s.nx+stride*i) (o.op.map (dW s.S))).2.2 /\
   Bg masks all i o (aU s.M (s.nx+stride*i) (o.op.map (dW s.S))).2.1 s.S log=true /\
   zl masks all r (i+1) ((i,gB o s.S (aU s.M (s.nx+stride*i) (o.op.map (dW s.S))).2.1,pg o s.S)::log) K ((s.upd (aU s.M (s.nx+stride*i) (o.op.map (dW s.S))).2.1).put o.dst (aU s.M (s.nx+stride*i) (o.op.map (dW s.S))).1)
theorem Fq {C:lu} {masks:List Nat} {all:List aS} {K:St->Prop}:∀ {r:List aS} {i:Nat} {log:lm} {s:St},zl masks all r i log K s->qy C masks all r i log K s:=by
 intro r
 induction r with
 | nil=>intro i log s h;exact h
 | cons o r ih =>
  intro i log s h
  obtain ⟨h1,h2,h3,h4,h5⟩:=h
  simp only [qy]
  rw [h1]
  simp only
  unfold J9
  have hM:(fun i=>aX i s.st)=s.M:=rfl
  rw [jU,hM]
  have nc:∀f xs,o.op.map (dW s.S)≠.call f xs:=fun f xs e=>by
   obtain ⟨d,op,g⟩:=o
   cases op<;>simp [HOp.map,HOp.isCall] at e h2
  have nv:∀f cap xs,o.op.map (dW s.S)≠.callv (.fn f cap) xs:=fun f cap xs e=>by
   obtain ⟨d,op,g⟩:=o
   cases op<;>simp [HOp.map,HOp.isCall] at e h2
  split
  ·rename_i f xs heq;exact absurd heq (nc f xs)
  ·rename_i f cap xs heq;exact absurd heq (nv f cap xs)
  ·exact ⟨h3,h4,ih h5⟩
theorem Ll {masks:List Nat} {all:List aS} {K:St->Prop} (hK:∀s s',Eqv s s'->K s->K s'):∀ {r:List aS} {i:Nat} {log:lm} {s s':St},Eqv s s'->zl masks all r i log K s->zl masks all r i log K s':=by
 intro r
 induction r with
 | nil=>intro i log s s' he h;exact hK _ _ he h
 | cons o r ih =>
  intro i log s s' he h
  simp only [zl] at h ⊢
  obtain ⟨e1,e2,e3⟩:=he
  rw [<- e1,<- e2,<- e3]
  exact ⟨h.1,h.2.1,h.2.2.1,h.2.2.2.1,ih (Eqv.upd ⟨e1,e2,e3⟩ _ _ _) h.2.2.2.2⟩
def GL (P:Program) (masks:List Nat) (all r:List aS) (i:Nat) (log:lm) (k:List HI) (rs:List Nat) (K:HV->Prop) (sl st:List (Nat×HV)) (nx:Nat):Prop :=
 zl masks all r i log (fun s1=>hk P k (finish rs K) .normal { s1 with nx:=s1.nx+stride*all.length }) ⟨sl,st,nx⟩
theorem JS {P:Program} {k:List HI} {rs:List Nat} {K:HV->Prop} {sl st:List (Nat×HV)} {nx:Nat} {ops:List aS} {masks:List Nat} (h1:pF masks ops=true) (h:GL P masks ops ops 0 [] k rs K sl st nx):hx P (.c (.region (some masks) ops)::k) (finish rs K) ⟨sl,st,nx⟩:=by
 refine Pe (Weak.refl _) ?_
 refine ⟨h1,fun _=>.inl ⟨fun _ _ _=>False,?_⟩⟩
 have:=MC (P:=P) (D:=fun _ _ _=>False) (masks:=masks) ops 0 [] ⟨sl,st,nx⟩ rfl rfl (Fq h)
 rw [List.range_eq_range']
 exact this
theorem Zm {P:Program} {masks:List Nat} {all:List aS} {i:Nat} {log:lm} {k:List HI} {rs:List Nat} {K:HV->Prop} {sl st:List (Nat×HV)} {nx n2:Nat} (hn:nx+stride*all.length=n2) (h:hx P k (finish rs K) ⟨sl,st,n2⟩):GL P masks all [] i log k rs K sl st nx:=by
 subst hn
 unfold GL zl
 unfold hx at h
 exact h
theorem OD {P:Program} {masks:List Nat} {all r:List aS} {i:Nat} {log:lm} {k:List HI} {rs:List Nat} {K:HV->Prop} {sl st sl' st':List (Nat×HV)} {nx:Nat} {d:Option Nat} {op:HOp HX} {op':HOp HV} [hp:Plain k] (v:HV) (us:List Upd) {side:Prop} {W R:List Nat} (hnc:op.isCall=false) (ho:op.map (ev sl)=op') (h0:aU (fun j=>aX j st) (nx+stride*i) op'=(v,us,side)) (hs:side)
  (hw:gB ⟨d,op,none⟩ (fun t=>aX t sl) us=W) (hr:pg ⟨d,op,none⟩ (fun t=>aX t sl)=R) (hc:Wv masks all i ⟨d,op,none⟩ W R log=true) (hu:Aw d v (sQ sl st us)=(sl',st')) (h:GL P masks all r (i+1) ((i,W,R)::log) k rs K sl' st' nx):GL P masks all (⟨d,op,none⟩::r) i log k rs K sl st nx:=by
 subst ho hw hr
 have e0:dW (St.S ⟨sl,st,nx⟩)=ev sl:=by rw [<- jU]
 have e:aU (St.M ⟨sl,st,nx⟩) (nx+stride*i) (op.map (dW (St.S ⟨sl,st,nx⟩)))=(v,us,side):=by rw [e0];exact h0
 have key:∀ (K0:St->Prop),(∀s s',Eqv s s'->K0 s->K0 s')->zl masks all r (i+1) ((i,gB ⟨d,op,none⟩ (fun t=>aX t sl) us,pg ⟨d,op,none⟩ (fun t=>aX t sl))::log) K0 ⟨sl',st',nx⟩->zl masks all (⟨d,op,none⟩::r) i log K0 ⟨sl,st,nx⟩:=by
  intro K0 hK0 hh
  refine ⟨rfl,hnc,?_,?_,?_⟩
  ·show (aU (St.M ⟨sl,st,nx⟩) (nx+stride*i) (op.map (dW (St.S ⟨sl,st,nx⟩)))).2.2
   rw [e];exact hs
  ·show Bg masks all i ⟨d,op,none⟩ (aU (St.M ⟨sl,st,nx⟩) (nx+stride*i) (op.map (dW (St.S ⟨sl,st,nx⟩)))).2.1 (fun t=>aX t sl) log=true
   rw [e];exact hc
  ·show zl masks all r (i+1) ((i,gB ⟨d,op,none⟩ (fun t=>aX t sl) (aU (St.M ⟨sl,st,nx⟩) (nx+stride*i) (op.map (dW (St.S ⟨sl,st,nx⟩)))).2.1,pg ⟨d,op,none⟩ (fun t=>aX t sl))::log) K0 ((St.upd ⟨sl,st,nx⟩ (aU (St.M ⟨sl,st,nx⟩) (nx+stride*i) (op.map (dW (St.S ⟨sl,st,nx⟩)))).2.1).put d (aU (St.M ⟨sl,st,nx⟩) (nx+stride*i) (op.map (dW (St.S ⟨sl,st,nx⟩)))).1)
   rw [e]
   exact Ll hK0 (kT hu) hh
 exact key _ (fun a b hab hh=>MW hp.plain (s:={ a with nx:=a.nx+stride*all.length }) (s':={ b with nx:=b.nx+stride*all.length }) ⟨hab.1,hab.2.1,congrArg (fun n=>n+stride*all.length) hab.2.2⟩ hh) h
theorem mQ {P:Program} {masks:List Nat} {all r:List aS} {i:Nat} {log:lm} {k:List HI} {rs:List Nat} {K:HV->Prop} {sl st:List (Nat×HV)} {nx t:Nat} {op:HOp HX} [hp:Plain k] (v:HV) (R:List Nat) {side:Prop} (hnc:op.isCall=false) (h0:aU (fun j=>aX j st) (nx+stride*i) (op.map (ev sl))=(v,[],side)) (hs:side)
  (hr:pg ⟨some t,op,none⟩ (fun t=>aX t sl)=R) (hc:Wv masks all i ⟨some t,op,none⟩ [] R log=true) (h:GL P masks all r (i+1) ((i,[],R)::log) k rs K ((t,v)::sl) st nx):GL P masks all (⟨some t,op,none⟩::r) i log k rs K sl st nx :=
 OD v [] hnc rfl h0 hs rfl hr hc rfl h
end Go.HL
end
section
set_option linter.unusedSimpArgs false
set_option linter.unusedVariables false
namespace Go.Proofs.Yteamkjblpglliaa
open Go.RowKit Go.SL Go.HL
theorem IA {L:Lk} {fr sz bytes id sz2 off n m n2 s2:Nat} {fl:Bool} {p:List Nat} {w:HV} {ws cs:List HV} {us:List Upd} {cond:Prop} (hn:dQ L fl sz w=(m,ws,us,cond)) (hg:bg ((L.upd us) id) p=.osl s2 n2 cs):aU L fr (.app fl sz bytes (.ref id p sz2 off n) w) =
  (.ref fr [] sz 0 (n+m),us++[.put id (fE .dead ((L.upd us) id) p),.put fr (.osl sz (n+m) (win cs off (n*sz)++ws))],cond/\(n+m)*bytes<=140737488355328/\n+m<=maxLen/\sz2=sz/\off+n*sz<=cs.length):=by
 simp only [aU,hn,hg]
set_option maxHeartbeats 4000000 in
theorem JZ {P:Program} {k:List HI} {rs:List Nat} {KK:HV->Prop} {x:HCode} [hp:Plain k] {W C:List Int} {nd:List (List Nat)} {B steps v:Int} {G S:List Bool} {fl row:List Int} {U U':List (List Nat)} {K i m q:Nat} (hU:U.length=nd.length) (hK:K<nd.length) (hf:(U.getD K []).length<=100000) (hU':U.set K (U.getD K []++[i])=U')
  (h:hx P (.c x::k) (finish rs KK) ⟨[(2,.pref 0 [] 0),(4,.pref 1 [] 0),(5,.int .i64 0),(8,.pref 2 [] 0),(10,.int .i64 i),(11,.sl m (HL.ints row)),(59,.sl nd.length (aZ (nd.map nl))),(60,.int .i64 nd.length),(61,.int .i64 i),(66,.sl m (HL.ints row)),(67,.int .i64 m),(68,.int .i64 q)],[(0,.optr [.sl nd.length (HL.ints W),.sl nd.length (HL.ints C),.sl nd.length (aZ (nd.map nl)),.int .i64 B]),(1,.optr [.nils,.int .i64 0,.int .i64 0,.int .i64 0,.int .i64 0,.nils,.int .i64 0,.bool false]),(2,.optr [.sl nd.length (HL.ints W),.sl nd.length (HL.ints C),.sl nd.length (aZ (nd.map nl)),.int .i64 B,.int .i64 steps,.osl 1 nd.length (HL.bools G),.int .i64 0,.int .i64 1,.int .i64 v,.sl nd.length (HL.bools S),.sl fl.length (HL.ints fl),.osl 1 nd.length (fZ U')])],3⟩):hx P (.c MO::.b 3::.c x::k) (finish rs KK) ⟨[(2,.pref 0 [] 0),(4,.pref 1 [] 0),(5,.int .i64 0),(8,.pref 2 [] 0),(10,.int .i64 i),(11,.sl m (HL.ints row)),(13,.int .i64 K),(59,.sl nd.length (aZ (nd.map nl))),(60,.int .i64 nd.length),(61,.int .i64 i),(66,.sl m (HL.ints row)),(67,.int .i64 m),(68,.int .i64 q)],[(0,.optr [.sl nd.length (HL.ints W),.sl nd.length (HL.ints C),.sl nd.length (aZ (nd.map nl)),.int .i64 B]),(1,.optr [.nils,.int .i64 0,.int .i64 0,.int .i64 0,.int .i64 0,.nils,.int .i64 0,.bool false]),(2,.optr [.sl nd.length (HL.ints W),.sl nd.length (HL.ints C),.sl nd.length (aZ (nd.map nl)),.int .i64 B,.int .i64 steps,.osl 1 nd.length (HL.bools G),.int .i64 0,.int .i64 1,.int .i64 v,.sl nd.length (HL.bools S),.sl fl.length (HL.ints fl),.osl 1 nd.length (fZ U)])],3⟩:=by
 have hro:=Ji U K (U.getD K []++[i]) .dead (m:=(U.getD K []).length+1) (by simp)
 rw [hU'] at hro
 have hg:=zA U (i:=K) (by omega)
 have hn1:=fH (U.getD K [])
 obtain ⟨r,hr⟩:∃r,U.getD K []=r:=⟨_,rfl⟩
 rw [hr] at hro hg hn1 hf
 have hl:=oI U
 unfold MO
 refine JS bi ?_
 refine mQ (.pref 2 [] 0) [4] rfl (rfl) (trivial) rfl bi ?_
 refine mQ (.pref 2 [] 0) [4] rfl (rfl) (trivial) rfl bi ?_
 refine mQ (.pref 2 [] 11) [4] rfl (rfl) (trivial) rfl bi ?_
 refine mQ (.ref 2 [11] 1 0 nd.length) [5] rfl (rfl) (Nat.le_of_ble_eq_true rfl) rfl bi ?_
 refine mQ (.int .i64 K) [] rfl (rfl) (trivial) rfl bi ?_
 refine mQ (.pref 2 [] 0) [4] rfl (rfl) (trivial) rfl bi ?_
 refine mQ (.pref 2 [] 0) [4] rfl (rfl) (trivial) rfl bi ?_
 refine mQ (.pref 2 [] 11) [4] rfl (rfl) (trivial) rfl bi ?_
 refine mQ (.ref 2 [11] 1 0 nd.length) [5] rfl (rfl) (Nat.le_of_ble_eq_true rfl) rfl bi ?_
 refine mQ (.int .i64 K) [] rfl (rfl) (trivial) rfl bi ?_
 refine mQ (side:=(0:Int)<=K/\(K:Int)<nd.length/\1=1) (.pref 2 [11] K) [4] rfl ?_ ⟨by omega,by omega,rfl⟩ rfl bi ?_
 ·show (HV.pref 2 [11] (0+(K:Int).toNat*1),([]:List Upd),(0:Int)<=K/\(K:Int)<nd.length/\1=1)=_
  rw [show 0+(K:Int).toNat*1=K by omega]
 refine mQ (side:=K<(fZ U).length) (.ref 2 [11,K] 1 0 r.length) [4] rfl ?_ (by omega) rfl bi ?_
 ·show (Go.HL.look 2 [11] K ((fZ U).getD K .dead),([]:List Upd),K<(fZ U).length)=_
  rw [hg];rfl
 refine mQ (.int .i64 i) [] rfl (rfl) (trivial) rfl bi ?_
 refine OD (W:=[422,423]) (R:=[]) (.ref 211 [] 1 0 1) [.put 211 (.osl 1 1 [.int .i64 i])] rfl rfl rfl ⟨⟨trivial,trivial⟩,rfl,rfl⟩ rfl rfl bi (by simp only [sQ,Aw];rfl) ?_
 refine OD (W:=[4,454,455]) (R:=[4,422]) (side:=(1=1/\0+1*1<=1/\true=true)/\(r.length+1)*8<=140737488355328/\r.length+1<=maxLen/\1=1/\0+r.length*1<=(HL.ints (nl r)).length) (.ref 227 [] 1 0 (r.length+1)) [.put 2 (.optr [.sl nd.length (HL.ints W),.sl nd.length (HL.ints C),.sl nd.length (aZ (nd.map nl)),.int .i64 B,.int .i64 steps,.osl 1 nd.length (HL.bools G),.int .i64 0,.int .i64 1,.int .i64 v,.sl nd.length (HL.bools S),.sl fl.length (HL.ints fl),.osl 1 nd.length ((fZ U).set K .dead)]),.put 227 (.osl 1 (r.length+1) (HL.ints (nl (r++[i]))))] rfl rfl ?_ ⟨⟨rfl,by omega,rfl⟩,by omega,by unfold maxLen;omega,rfl,by rw [HL.ints_len,hn1];omega⟩ rfl rfl bi (by simp only [sQ,Aw];rfl) ?_
 ·have hwn:win (HL.ints (nl r)) 0 (r.length*1)++[HV.int .i64 (i:Int)]=HL.ints (nl (r++[i])):=by
   rw [fF _ (by rw [hn1];omega)];simp [HL.ints,nl]
  have hng:bg (.optr [.sl nd.length (HL.ints W),.sl nd.length (HL.ints C),.sl nd.length (aZ (nd.map nl)),.int .i64 B,.int .i64 steps,.osl 1 nd.length (HL.bools G),.int .i64 0,.int .i64 1,.int .i64 v,.sl nd.length (HL.bools S),.sl fl.length (HL.ints fl),.osl 1 nd.length (fZ U)]) [11,K]=.osl 1 r.length (HL.ints (nl r)):=hg
  refine (IA (L:=fun j=>aX j [(211,HV.osl 1 1 [HV.int .i64 (i:Int)]),(0,.optr [.sl nd.length (HL.ints W),.sl nd.length (HL.ints C),.sl nd.length (aZ (nd.map nl)),.int .i64 B]),(1,.optr [.nils,.int .i64 0,.int .i64 0,.int .i64 0,.int .i64 0,.nils,.int .i64 0,.bool false]),(2,.optr [.sl nd.length (HL.ints W),.sl nd.length (HL.ints C),.sl nd.length (aZ (nd.map nl)),.int .i64 B,.int .i64 steps,.osl 1 nd.length (HL.bools G),.int .i64 0,.int .i64 1,.int .i64 v,.sl nd.length (HL.bools S),.sl fl.length (HL.ints fl),.osl 1 nd.length (fZ U)])]) (fr:=227) (bytes:=8) (off:=0) (n:=r.length) (sz2:=1) (id:=2) (p:=[11,K]) (w:=.ref 211 [] 1 0 1) (fl:=true) (sz:=1) (us:=[]) (m:=1) (ws:=[HV.int .i64 (i:Int)]) (cond:=1=1/\0+1*1<=1/\true=true) rfl hng).trans ?_
  simp only [hwn]
  rfl
 refine mQ (side:=(0:Int)<=K/\(K:Int)<nd.length/\1=1) (.pref 2 [11] K) [4] rfl ?_ ⟨by omega,by omega,rfl⟩ rfl bi ?_
 ·show (HV.pref 2 [11] (0+(K:Int).toNat*1),([]:List Upd),(0:Int)<=K/\(K:Int)<nd.length/\1=1)=_
  rw [show 0+(K:Int).toNat*1=K by omega]
 refine OD (W:=[454,455,4,5]) (R:=[4,454]) (side:=((0=0/\r.length+1=r.length+1)/\True)/\[HV.osl 1 (r.length+1) (HL.ints (nl (r++[i])))].length=1/\0<1/\K+1<=((fZ U).set K .dead).length/\(false=true->dA [HV.osl 1 (r.length+1) (HL.ints (nl (r++[i])))]=true)) .dead [.put 227 .dead,.kill 2 1,.put 2 (.optr [.sl nd.length (HL.ints W),.sl nd.length (HL.ints C),.sl nd.length (aZ (nd.map nl)),.int .i64 B,.int .i64 steps,.osl 1 nd.length (HL.bools G),.int .i64 0,.int .i64 1,.int .i64 v,.sl nd.length (HL.bools S),.sl fl.length (HL.ints fl),.osl 1 nd.length (fZ U')])] rfl rfl ?_ ⟨⟨⟨rfl,rfl⟩,trivial⟩,rfl,by omega,by rw [List.length_set,hl];omega,fun h=>by cases h⟩ rfl rfl bi (by simp only [sQ,Aw];rfl) ?_
 ·show (HV.dead,[Upd.put 227 .dead,.kill 2 1,.put 2 (.optr [.sl nd.length (HL.ints W),.sl nd.length (HL.ints C),.sl nd.length (aZ (nd.map nl)),.int .i64 B,.int .i64 steps,.osl 1 nd.length (HL.bools G),.int .i64 0,.int .i64 1,.int .i64 v,.sl nd.length (HL.bools S),.sl fl.length (HL.ints fl),.osl 1 nd.length (((fZ U).set K .dead).set K (.osl 1 (r.length+1) (HL.ints (nl (r++[i])))))])],((0=0/\r.length+1=r.length+1)/\True)/\[HV.osl 1 (r.length+1) (HL.ints (nl (r++[i])))].length=1/\0<1/\K+1<=((fZ U).set K .dead).length/\(false=true->dA [HV.osl 1 (r.length+1) (HL.ints (nl (r++[i])))]=true))=_
  rw [hro]
 refine Zm rfl ?_
 refine dh ?_
 exact dO [2,4,5,8,10,11,59,60,61,66,67,68] _ rfl h
end Go.Proofs.Yteamkjblpglliaa
end
