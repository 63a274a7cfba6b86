import Derived.Test.YtlbdmpjnmfmnfaaFs2
set_option linter.unusedSimpArgs false
set_option linter.unusedVariables false
namespace Go.HL
open Go.RowKit
def Vz (masks:List Nat) (all:List aF) (i:Nat) (o:aF) (W R:List Nat) (log:kN):Bool :=
 log.all fun q=>oD masks q.1 i || oD masks i q.1 || (match all[q.1]? with|some o'=>!rU o' o|none=>true) || (W.all (fun x=>!q.2.2.contains x)&&q.2.1.all (fun x=>!R.contains x))
def xM (masks:List Nat) (all:List aF):List aF->Nat->kN->(St->Prop)->St->Prop
 | [],_,_,K,s=>K s
 | o::r,i,log,K,s=>o.guard=none/\o.op.isCall=false/\(ay s.M (s.nx+stride*i) (o.op.map (dQ s.S))).2.2 /\
   zh masks all i o (ay s.M (s.nx+stride*i) (o.op.map (dQ s.S))).2.1 s.S log=true /\
   xM masks all r (i+1) ((i,rH o s.S (ay s.M (s.nx+stride*i) (o.op.map (dQ s.S))).2.1,nR o s.S)::log) K ((s.upd (ay s.M (s.nx+stride*i) (o.op.map (dQ s.S))).2.1).put o.dst (ay s.M (s.nx+stride*i) (o.op.map (dQ s.S))).1)
theorem EH {C:kK} {masks:List Nat} {all:List aF} {K:St->Prop}:∀ {r:List aF} {i:Nat} {log:kN} {s:St},xM masks all r i log K s->oI C masks all r i log K s:=by
 intro r
 induction r with
 | nil=>intro i log s h;exact h
 | cons o r ih =>
  intro i log s h
  obtain ⟨h1,h2,h3,h4,h5⟩:=h
  simp only [oI]
  rw [h1]
  simp only
  unfold KJ
  have hM:(fun i=>aH i s.st)=s.M:=rfl
  rw [iI,hM]
  have nc:∀f xs,o.op.map (dQ s.S)≠.call f xs:=fun f xs e=>by
   obtain ⟨d,op,g⟩:=o
   cases op<;>simp [HOp.map,HOp.isCall] at e h2
  have nv:∀f cap xs,o.op.map (dQ s.S)≠.callv (.fn f cap) xs:=fun f cap xs e=>by
   obtain ⟨d,op,g⟩:=o
   cases op<;>simp [HOp.map,HOp.isCall] at e h2
  split
  ·rename_i f xs heq;exact absurd heq (nc f xs)
  ·rename_i f cap xs heq;exact absurd heq (nv f cap xs)
  ·exact ⟨h3,h4,ih h5⟩
theorem Lr {masks:List Nat} {all:List aF} {K:St->Prop} (hK:∀s s',Eqv s s'->K s->K s'):∀ {r:List aF} {i:Nat} {log:kN} {s s':St},Eqv s s'->xM masks all r i log K s->xM masks all r i log K s':=by
 intro r
 induction r with
 | nil=>intro i log s s' he h;exact hK _ _ he h
 | cons o r ih =>
  intro i log s s' he h
  simp only [xM] at h ⊢
  obtain ⟨e1,e2,e3⟩:=he
  rw [<- e1,<- e2,<- e3]
  exact ⟨h.1,h.2.1,h.2.2.1,h.2.2.2.1,ih (Eqv.upd ⟨e1,e2,e3⟩ _ _ _) h.2.2.2.2⟩
def GL (P:Program) (masks:List Nat) (all r:List aF) (i:Nat) (log:kN) (k:List HI) (rs:List Nat) (K:HV->Prop) (sl st:List (Nat×HV)) (nx:Nat):Prop :=
 xM masks all r i log (fun s1=>hk P k (finish rs K) .normal { s1 with nx:=s1.nx+stride*all.length }) ⟨sl,st,nx⟩
theorem I9 {P:Program} {k:List HI} {rs:List Nat} {K:HV->Prop} {sl st:List (Nat×HV)} {nx:Nat} {ops:List aF} {masks:List Nat} (h1:lZ masks ops=true) (h:GL P masks ops ops 0 [] k rs K sl st nx):hx P (.c (.region (some masks) ops)::k) (finish rs K) ⟨sl,st,nx⟩:=by
 refine O8 (Weak.refl _) ?_
 refine ⟨h1,fun _=>.inl ⟨fun _ _ _=>False,?_⟩⟩
 have:=KD (P:=P) (D:=fun _ _ _=>False) (masks:=masks) ops 0 [] ⟨sl,st,nx⟩ rfl rfl (EH h)
 rw [List.range_eq_range']
 exact this
theorem XT {P:Program} {masks:List Nat} {all:List aF} {i:Nat} {log:kN} {k:List HI} {rs:List Nat} {K:HV->Prop} {sl st:List (Nat×HV)} {nx n2:Nat} (hn:nx+stride*all.length=n2) (h:hx P k (finish rs K) ⟨sl,st,n2⟩):GL P masks all [] i log k rs K sl st nx:=by
 subst hn
 unfold GL xM
 unfold hx at h
 exact h
theorem Nu {P:Program} {masks:List Nat} {all r:List aF} {i:Nat} {log:kN} {k:List HI} {rs:List Nat} {K:HV->Prop} {sl st sl' st':List (Nat×HV)} {nx:Nat} {d:Option Nat} {op:HOp HX} {op':HOp HV} [hp:Plain k] (v:HV) (us:List Upd) {side:Prop} {W R:List Nat} (hnc:op.isCall=false) (ho:op.map (ev sl)=op') (h0:ay (fun j=>aH j st) (nx+stride*i) op'=(v,us,side)) (hs:side)
  (hw:rH ⟨d,op,none⟩ (fun t=>aH t sl) us=W) (hr:nR ⟨d,op,none⟩ (fun t=>aH t sl)=R) (hc:Vz masks all i ⟨d,op,none⟩ W R log=true) (hu:Bo d v (qG sl st us)=(sl',st')) (h:GL P masks all r (i+1) ((i,W,R)::log) k rs K sl' st' nx):GL P masks all (⟨d,op,none⟩::r) i log k rs K sl st nx:=by
 subst ho hw hr
 have e0:dQ (St.S ⟨sl,st,nx⟩)=ev sl:=by rw [<- iI]
 have e:ay (St.M ⟨sl,st,nx⟩) (nx+stride*i) (op.map (dQ (St.S ⟨sl,st,nx⟩)))=(v,us,side):=by rw [e0];exact h0
 have key:∀ (K0:St->Prop),(∀s s',Eqv s s'->K0 s->K0 s')->xM masks all r (i+1) ((i,rH ⟨d,op,none⟩ (fun t=>aH t sl) us,nR ⟨d,op,none⟩ (fun t=>aH t sl))::log) K0 ⟨sl',st',nx⟩->xM masks all (⟨d,op,none⟩::r) i log K0 ⟨sl,st,nx⟩:=by
  intro K0 hK0 hh
  refine ⟨rfl,hnc,?_,?_,?_⟩
  ·show (ay (St.M ⟨sl,st,nx⟩) (nx+stride*i) (op.map (dQ (St.S ⟨sl,st,nx⟩)))).2.2
   rw [e];exact hs
  ·show zh masks all i ⟨d,op,none⟩ (ay (St.M ⟨sl,st,nx⟩) (nx+stride*i) (op.map (dQ (St.S ⟨sl,st,nx⟩)))).2.1 (fun t=>aH t sl) log=true
   rw [e];exact hc
  ·show xM masks all r (i+1) ((i,rH ⟨d,op,none⟩ (fun t=>aH t sl) (ay (St.M ⟨sl,st,nx⟩) (nx+stride*i) (op.map (dQ (St.S ⟨sl,st,nx⟩)))).2.1,nR ⟨d,op,none⟩ (fun t=>aH t sl))::log) K0 ((St.upd ⟨sl,st,nx⟩ (ay (St.M ⟨sl,st,nx⟩) (nx+stride*i) (op.map (dQ (St.S ⟨sl,st,nx⟩)))).2.1).put d (ay (St.M ⟨sl,st,nx⟩) (nx+stride*i) (op.map (dQ (St.S ⟨sl,st,nx⟩)))).1)
   rw [e]
   exact Lr hK0 (kU hu) hh
 exact key _ (fun a b hab hh=>Jh hp.plain (s:={ a with nx:=a.nx+stride*all.length }) (s':={ b with nx:=b.nx+stride*all.length }) ⟨hab.1,hab.2.1,congrArg (fun n=>n+stride*all.length) hab.2.2⟩ hh) h
theorem qM {P:Program} {masks:List Nat} {all r:List aF} {i:Nat} {log:kN} {k:List HI} {rs:List Nat} {K:HV->Prop} {sl st:List (Nat×HV)} {nx t:Nat} {op:HOp HX} [hp:Plain k] (v:HV) (R:List Nat) {side:Prop} (hnc:op.isCall=false) (h0:ay (fun j=>aH j st) (nx+stride*i) (op.map (ev sl))=(v,[],side)) (hs:side)
  (hr:nR ⟨some t,op,none⟩ (fun t=>aH t sl)=R) (hc:Vz masks all i ⟨some t,op,none⟩ [] R log=true) (h:GL P masks all r (i+1) ((i,[],R)::log) k rs K ((t,v)::sl) st nx):GL P masks all (⟨some t,op,none⟩::r) i log k rs K sl st nx :=
 Nu v [] hnc rfl h0 hs rfl hr hc rfl h
end Go.HL
