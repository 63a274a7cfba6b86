import Derived.Test.YtjlidhijnohkbaaHl5
set_option linter.unusedSimpArgs false
set_option linter.unusedVariables false
namespace Go.HL
open Go.RowKit
def RN:Nat->HV->HV
 | z+1,.nils=>.osl (z+1) 0 []
 | _,v=>v
def kR:List Nat->List HV->List HV
 | z::zs,v::vs=>RN z v::kR zs vs
 | [],vs=>vs
 | _::_,[]=>[]
theorem Px {F:Nat->Prop} {h:Hp} {R:HV->Value->Prop} {vs:List HV} {rvs:List Value} {fs:List Nat} (o:OW F h R vs rvs fs):∀zs,OW F h R (kR zs vs) rvs fs:=by
 have other:∀ {z:Nat} {v:HV},v≠.nils->RN z v=v:=by
  intro z v h
  cases z<;>cases v<;>first|rfl|exact absurd rfl h
 induction o with
 | nil=>intro zs;cases zs<;>exact .nil
 | @leaf R v rv r rr fs a b c d e f g h ih =>
  intro zs
  cases zs with
  | nil=>exact .leaf a b c d e f g h
  | cons z zs =>
   rw [kR,other (by intro e;subst e;cases a)]
   exact .leaf a b c d e f g (ih zs)
 | int h ih=>intro zs;cases zs with
  | nil=>exact .int h
  | cons z zs=>rw [kR,other (by simp)];exact .int (ih zs)
 | bool h ih=>intro zs;cases zs with
  | nil=>exact .bool h
  | cons z zs=>rw [kR,other (by simp)];exact .bool (ih zs)
 | str h ih=>intro zs;cases zs with
  | nil=>exact .str h
  | cons z zs=>rw [kR,other (by simp)];exact .str (ih zs)
 | nils h ih=>intro zs;cases zs with
  | nil=>exact .nils h
  | cons z zs=>cases z with
   | zero=>exact .nils (ih zs)
   | succ z=>exact .osl0 (ih zs)
 | nilp h ih=>intro zs;cases zs with
  | nil=>exact .nilp h
  | cons z zs=>rw [kR,other (by simp)];exact .nilp (ih zs)
 | nilf h ih=>intro zs;cases zs with
  | nil=>exact .nilf h
  | cons z zs=>rw [kR,other (by simp)];exact .nilf (ih zs)
 | dead h ih=>intro zs;cases zs with
  | nil=>exact .dead h
  | cons z zs=>rw [kR,other (by simp)];exact .dead (ih zs)
 | nilm h ih=>intro zs;cases zs with
  | nil=>exact .nilm h
  | cons z zs=>rw [kR,other (by simp)];exact .nilm (ih zs)
 | rmap a b c d h _ ih=>intro zs;cases zs with
  | nil=>exact .rmap a b c d h
  | cons z zs=>rw [kR,other (by simp)];exact .rmap a b c d (ih zs)
 | omap a b c h _ ih=>intro zs;cases zs with
  | nil=>exact .omap a b c h
  | cons z zs=>rw [kR,other (by simp)];exact .omap a b c (ih zs)
 | oitr a h ih=>intro zs;cases zs with
  | nil=>exact .oitr a h
  | cons z zs=>rw [kR,other (by simp)];exact .oitr a (ih zs)
 | sl0 h ih=>intro zs;cases zs with
  | nil=>exact .sl0 h
  | cons z zs=>rw [kR,other (by simp)];exact .sl0 (ih zs)
 | sl a b c d e h _ ih=>intro zs;cases zs with
  | nil=>exact .sl a b c d e h
  | cons z zs=>rw [kR,other (by simp)];exact .sl a b c d e (ih zs)
 | osl0 h ih=>intro zs;cases zs with
  | nil=>exact .osl0 h
  | cons z zs=>rw [kR,other (by simp)];exact .osl0 (ih zs)
 | osl a b c d e f g h _ ih=>intro zs;cases zs with
  | nil=>exact .osl a b c d e f g h
  | cons z zs=>rw [kR,other (by simp)];exact .osl a b c d e f g (ih zs)
 | ptr a b c d h _ ih=>intro zs;cases zs with
  | nil=>exact .ptr a b c d h
  | cons z zs=>rw [kR,other (by simp)];exact .ptr a b c d (ih zs)
 | optr a b h _ ih=>intro zs;cases zs with
  | nil=>exact .optr a b h
  | cons z zs=>rw [kR,other (by simp)];exact .optr a b (ih zs)
 | agg a h _ ih=>intro zs;cases zs with
  | nil=>exact .agg a h
  | cons z zs=>rw [kR,other (by simp)];exact .agg a (ih zs)
 | tup a h _ ih=>intro zs;cases zs with
  | nil=>exact .tup a h
  | cons z zs=>rw [kR,other (by simp)];exact .tup a (ih zs)
 | fn a h _ ih=>intro zs;cases zs with
  | nil=>exact .fn a h
  | cons z zs=>rw [kR,other (by simp)];exact .fn a (ih zs)
theorem Weak.ownBox {s:St} (id:Nat) (zs:List Nat) {cs:List HV} (hid:s.M id=.optr cs):Weak s ⟨s.sl.map fun p=>(p.1,p.2.kill id 0),(id,.optr (kR zs cs))::s.st,s.nx⟩:=by
 intro E a w ⟨loc,fp,hr⟩
 have hM:∀k,(⟨s.sl.map fun p=>(p.1,p.2.kill id 0),(id,.optr (kR zs cs))::s.st,s.nx⟩:St).M k=if id=k then .optr (kR zs cs) else s.M k:=fun k=>rfl
 obtain ⟨-,hk⟩:=hr.kill id 0
 refine ⟨loc,fp,⟨hr.below,hr.base,hr.size,fun k hkd=>?_,fun k hkd=>?_,fun k hkn=>?_,hr.nodup,hr.apart,hr.fresh,fun t=>?_,hr.defers⟩⟩
 ·rw [hM] at hkd ⊢
  by_cases e:id=k
  ·subst e
   rw [if_pos rfl]
   have htr:=hr.tree id (by rw [hid];simp)
   rw [hid] at htr
   generalize hl:loc id=lv at htr ⊢
   generalize hf:fp id=fs at htr ⊢
   cases htr with
   | leaf _ _ h3=>exact absurd rfl (h3.1 _)
   | optr h1 h2 h3=>exact .optr h1 (Px h2 zs) h3
  ·rw [if_neg e] at hkd ⊢
   exact hr.tree k hkd
 ·rw [hM] at hkd
  by_cases e:id=k
  ·subst e;rw [if_pos rfl] at hkd;cases hkd
  ·rw [if_neg e] at hkd;exact hr.gone k hkd
 ·rw [hM]
  by_cases e:id=k
  ·subst e
   have:=hr.new id hkn
   rw [hid] at this;cases this
  ·rw [if_neg e];exact hr.new k hkn
 ·have hS:(⟨s.sl.map fun p=>(p.1,p.2.kill id 0),(id,.optr (kR zs cs))::s.st,s.nx⟩:St).S t=(s.S t).kill id 0:=by
   show au t (s.sl.map _)=_
   unfold St.S
   generalize s.sl=l
   induction l with
   | nil=>rfl
   | cons p r ih =>
    obtain ⟨k,v⟩:=p
    simp only [iy,au]
    split
    ·rfl
    ·exact ih
  rw [hS]
  refine (hk t).stable (fun _ _=>rfl) (fun _ h=>⟨h,rfl⟩) ?_
  rintro v rv ⟨hv,hc⟩
  obtain ⟨i,hi,hilt⟩:=hv.isRef
  by_cases e:i=id
  ·subst e
   cases v<;>simp only [dH,bY,reduceCtorEq] at hi
   ·subst hi
    rename_i p sz off n
    obtain ⟨a1,a2,a0,a4,a3⟩:=hv
    have hp:p=[]:=by
     have:=hc _ p (.inl ⟨_,_,_,rfl⟩)
     cases p with
     | nil=>rfl
     | cons=>exact absurd ⟨rfl,by simp⟩ this
    subst hp
    have:s.M _=.optr cs:=hid
    exact absurd this (a4 cs)
   ·subst hi
    rename_i p off
    obtain ⟨a1,a2,a0,a3⟩:=hv
    have hp:p=[]:=by
     have:=hc _ p (.inr (.inl ⟨_,rfl⟩))
     cases p with
     | nil=>rfl
     | cons=>exact absurd ⟨rfl,by simp⟩ this
    subst hp
    refine ⟨a1,a2,a0,fun _=>?_⟩
    have h1:s.M _=.optr cs:=hid
    exact a3 (by show isPt (s.M _);rw [h1];trivial)
   ·subst hi
    rename_i p
    obtain ⟨a1,a2,a0,a4,a3⟩:=hv
    have hp:p=[]:=by
     have:=hc _ p (.inr (.inr rfl))
     cases p with
     | nil=>rfl
     | cons=>exact absurd ⟨rfl,by simp⟩ this
    subst hp
    have:s.M _=.optr cs:=hid
    exact absurd this (a4 cs)
  ·exact hv.stay hr (aP _) hi (by rw [hM,if_neg (fun h=>e h.symm)]) rfl (fun _ _=>rfl)
theorem Jo {P:Program} {k:List HI} {Q:HE->St->Prop} {x:HCode} {sl st:List (Nat×HV)} {nx:Nat} (id:Nat) (zs:List Nat) (keep:List Nat) {cs:List HV} (s0:St) (hid:au id st=.optr cs)
  (hn:norm2 keep ⟨sl.map fun p=>(p.1,p.2.kill id 0),(id,.optr (kR zs cs))::st,nx⟩=s0) (h:hx P (.c x::k) Q s0):hx P (.c x::k) Q ⟨sl,st,nx⟩ :=
 yJ ((Weak.ownBox (s:=⟨sl,st,nx⟩) id zs hid).trans (hn▸Weak.norm2 keep _)) h
end Go.HL
