import Derived.Test.YtlbdmpjnmfmnfaaHl5
set_option linter.unusedSimpArgs false
set_option linter.unusedVariables false
section
namespace Go.HL
open Go.RowKit
def ado:Nat->HV->HV
 | z+1,.nils=>.osl (z+1) 0 []
 | _,v=>v
def pO:List Nat->List HV->List HV
 | z::zs,v::vs=>ado z v::pO zs vs
 | [],vs=>vs
 | _::_,[]=>[]
theorem Yq {F:Nat->Prop} {h:Hp} {R:HV->Value->Prop} {vs:List HV} {rvs:List Value} {fs:List Nat} (o:OW F h R vs rvs fs):∀zs,OW F h R (pO zs vs) rvs fs:=by
 have other:∀ {z:Nat} {v:HV},v≠.nils->ado z v=v:=by
  intro z v h
  cases z<;>cases v<;>first|rfl|exact absurd rfl h
 induction o with
 | nil=>intro zs;cases zs<;>exact .nil
 | @leaf R v rv r rr fs a b c d e f g h ih =>
  intro zs
  cases zs with
  | nil=>exact .leaf a b c d e f g h
  | cons z zs =>
   rw [pO,other (by intro e;subst e;cases a)]
   exact .leaf a b c d e f g (ih zs)
 | int h ih=>intro zs;cases zs with
  | nil=>exact .int h
  | cons z zs=>rw [pO,other (by simp)];exact .int (ih zs)
 | bool h ih=>intro zs;cases zs with
  | nil=>exact .bool h
  | cons z zs=>rw [pO,other (by simp)];exact .bool (ih zs)
 | str h ih=>intro zs;cases zs with
  | nil=>exact .str h
  | cons z zs=>rw [pO,other (by simp)];exact .str (ih zs)
 | nils h ih=>intro zs;cases zs with
  | nil=>exact .nils h
  | cons z zs=>cases z with
   | zero=>exact .nils (ih zs)
   | succ z=>exact .osl0 (ih zs)
 | nilp h ih=>intro zs;cases zs with
  | nil=>exact .nilp h
  | cons z zs=>rw [pO,other (by simp)];exact .nilp (ih zs)
 | nilf h ih=>intro zs;cases zs with
  | nil=>exact .nilf h
  | cons z zs=>rw [pO,other (by simp)];exact .nilf (ih zs)
 | dead h ih=>intro zs;cases zs with
  | nil=>exact .dead h
  | cons z zs=>rw [pO,other (by simp)];exact .dead (ih zs)
 | nilm h ih=>intro zs;cases zs with
  | nil=>exact .nilm h
  | cons z zs=>rw [pO,other (by simp)];exact .nilm (ih zs)
 | rmap a b c d h _ ih=>intro zs;cases zs with
  | nil=>exact .rmap a b c d h
  | cons z zs=>rw [pO,other (by simp)];exact .rmap a b c d (ih zs)
 | omap a b c h _ ih=>intro zs;cases zs with
  | nil=>exact .omap a b c h
  | cons z zs=>rw [pO,other (by simp)];exact .omap a b c (ih zs)
 | oitr a h ih=>intro zs;cases zs with
  | nil=>exact .oitr a h
  | cons z zs=>rw [pO,other (by simp)];exact .oitr a (ih zs)
 | sl0 h ih=>intro zs;cases zs with
  | nil=>exact .sl0 h
  | cons z zs=>rw [pO,other (by simp)];exact .sl0 (ih zs)
 | sl a b c d e h _ ih=>intro zs;cases zs with
  | nil=>exact .sl a b c d e h
  | cons z zs=>rw [pO,other (by simp)];exact .sl a b c d e (ih zs)
 | osl0 h ih=>intro zs;cases zs with
  | nil=>exact .osl0 h
  | cons z zs=>rw [pO,other (by simp)];exact .osl0 (ih zs)
 | osl a b c d e f g h _ ih=>intro zs;cases zs with
  | nil=>exact .osl a b c d e f g h
  | cons z zs=>rw [pO,other (by simp)];exact .osl a b c d e f g (ih zs)
 | ptr a b c d h _ ih=>intro zs;cases zs with
  | nil=>exact .ptr a b c d h
  | cons z zs=>rw [pO,other (by simp)];exact .ptr a b c d (ih zs)
 | optr a b h _ ih=>intro zs;cases zs with
  | nil=>exact .optr a b h
  | cons z zs=>rw [pO,other (by simp)];exact .optr a b (ih zs)
 | agg a h _ ih=>intro zs;cases zs with
  | nil=>exact .agg a h
  | cons z zs=>rw [pO,other (by simp)];exact .agg a (ih zs)
 | tup a h _ ih=>intro zs;cases zs with
  | nil=>exact .tup a h
  | cons z zs=>rw [pO,other (by simp)];exact .tup a (ih zs)
 | fn a h _ ih=>intro zs;cases zs with
  | nil=>exact .fn a h
  | cons z zs=>rw [pO,other (by simp)];exact .fn a (ih zs)
theorem Weak.ownBox {s:St} (id:Nat) (zs:List Nat) {cs:List HV} (hid:s.M id=.optr cs):Weak s ⟨s.sl.map fun p=>(p.1,p.2.kill id 0),(id,.optr (pO zs cs))::s.st,s.nx⟩:=by
 intro E a w ⟨loc,fp,hr⟩
 have hM:∀k,(⟨s.sl.map fun p=>(p.1,p.2.kill id 0),(id,.optr (pO zs cs))::s.st,s.nx⟩:St).M k=if id=k then .optr (pO zs cs) else s.M k:=fun k=>rfl
 obtain ⟨-,hk⟩:=hr.kill id 0
 refine ⟨loc,fp,⟨hr.below,hr.base,hr.size,fun k hkd=>?_,fun k hkd=>?_,fun k hkn=>?_,hr.nodup,hr.apart,hr.fresh,fun t=>?_,hr.defers⟩⟩
 ·rw [hM] at hkd ⊢
  by_cases e:id=k
  ·subst e
   rw [if_pos rfl]
   have htr:=hr.tree id (by rw [hid];simp)
   rw [hid] at htr
   generalize hl:loc id=lv at htr ⊢
   generalize hf:fp id=fs at htr ⊢
   cases htr with
   | leaf _ _ h3=>exact absurd rfl (h3.1 _)
   | optr h1 h2 h3=>exact .optr h1 (Yq h2 zs) h3
  ·rw [if_neg e] at hkd ⊢
   exact hr.tree k hkd
 ·rw [hM] at hkd
  by_cases e:id=k
  ·subst e;rw [if_pos rfl] at hkd;cases hkd
  ·rw [if_neg e] at hkd;exact hr.gone k hkd
 ·rw [hM]
  by_cases e:id=k
  ·subst e
   have:=hr.new id hkn
   rw [hid] at this;cases this
  ·rw [if_neg e];exact hr.new k hkn
 ·have hS:(⟨s.sl.map fun p=>(p.1,p.2.kill id 0),(id,.optr (pO zs cs))::s.st,s.nx⟩:St).S t=(s.S t).kill id 0:=by
   show au t (s.sl.map _)=_
   unfold St.S
   generalize s.sl=l
   induction l with
   | nil=>rfl
   | cons p r ih =>
    obtain ⟨k,v⟩:=p
    simp only [dP,au]
    split
    ·rfl
    ·exact ih
  rw [hS]
  refine (hk t).stable (fun _ _=>rfl) (fun _ h=>⟨h,rfl⟩) ?_
  rintro v rv ⟨hv,hc⟩
  obtain ⟨i,hi,hilt⟩:=hv.isRef
  by_cases e:i=id
  ·subst e
   cases v<;>simp only [dW,bT,reduceCtorEq] at hi
   ·subst hi
    rename_i p sz off n
    obtain ⟨a1,a2,a0,a4,a3⟩:=hv
    have hp:p=[]:=by
     have:=hc _ p (.inl ⟨_,_,_,rfl⟩)
     cases p with
     | nil=>rfl
     | cons=>exact absurd ⟨rfl,by simp⟩ this
    subst hp
    have:s.M _=.optr cs:=hid
    exact absurd this (a4 cs)
   ·subst hi
    rename_i p off
    obtain ⟨a1,a2,a0,a3⟩:=hv
    have hp:p=[]:=by
     have:=hc _ p (.inr (.inl ⟨_,rfl⟩))
     cases p with
     | nil=>rfl
     | cons=>exact absurd ⟨rfl,by simp⟩ this
    subst hp
    refine ⟨a1,a2,a0,fun _=>?_⟩
    have h1:s.M _=.optr cs:=hid
    exact a3 (by show isPt (s.M _);rw [h1];trivial)
   ·subst hi
    rename_i p
    obtain ⟨a1,a2,a0,a4,a3⟩:=hv
    have hp:p=[]:=by
     have:=hc _ p (.inr (.inr rfl))
     cases p with
     | nil=>rfl
     | cons=>exact absurd ⟨rfl,by simp⟩ this
    subst hp
    have:s.M _=.optr cs:=hid
    exact absurd this (a4 cs)
  ·exact hv.stay hr (aY _) hi (by rw [hM,if_neg (fun h=>e h.symm)]) rfl (fun _ _=>rfl)
theorem dZ {P:Program} {k:List HI} {Q:HE->St->Prop} {x:HCode} {sl st:List (Nat×HV)} {nx:Nat} (id:Nat) (zs:List Nat) (keep:List Nat) {cs:List HV} (s0:St) (hid:au id st=.optr cs)
  (hn:norm2 keep ⟨sl.map fun p=>(p.1,p.2.kill id 0),(id,.optr (pO zs cs))::st,nx⟩=s0) (h:hx P (.c x::k) Q s0):hx P (.c x::k) Q ⟨sl,st,nx⟩ :=
 qj ((Weak.ownBox (s:=⟨sl,st,nx⟩) id zs hid).trans (hn▸Weak.norm2 keep _)) h
theorem Weak.freezeIn {s:St} (id:Nat) {cs:List HV} (hid:s.M id=.optr cs):Weak s ⟨s.sl.map fun p=>(p.1,p.2.kill id 0),(id,.optr (stripL cs))::s.st,s.nx⟩:=by
 intro E a w ⟨loc,fp,hr⟩
 have hM:∀k,(⟨s.sl.map fun p=>(p.1,p.2.kill id 0),(id,.optr (stripL cs))::s.st,s.nx⟩:St).M k=if id=k then .optr (stripL cs) else s.M k:=fun k=>rfl
 obtain ⟨-,hk⟩:=hr.kill id 0
 have htr:=hr.tree id (by rw [hid];simp)
 rw [hid] at htr
 obtain ⟨g,cur,e,f1,hloc,hfp,hg,how⟩:∃g cur e f1,loc id=.pointer (some ⟨g,0,none⟩)/\fp id=g::f1/\w.heap[g]?=some (.cells cur e (0,0))/\OW (frz E fp w) w.heap dG cs cur.toList f1:=by
  generalize loc id=lv at htr
  generalize fp id=fs at htr
  cases htr with
  | leaf _ _ h3=>exact absurd rfl (h3.1 _)
  | @optr _ _ g cur e f1 _ _ _ h1 h2 h3 =>
   cases h3
   exact ⟨g,cur,e,f1,rfl,by simp,h1,h2⟩
 let fp':Nat->List Nat:=fun k=>if k=id then [g] else fp k
 have hsub:∀k b,b∈fp' k->b∈fp k:=fun k b hb=>by
  simp only [fp'] at hb
  split at hb
  ·rename_i hk;rw [hk,hfp];simp at hb;simp [hb]
  ·exact hb
 have hfz:∀b,frz E fp w b->frz E fp' w b:=fun b ⟨h1,h2,h3⟩=>⟨h1,h2,fun k hk=>h3 k (hsub k b hk)⟩
 have hF:∀b,frz E fp w b->frz E fp' w b/\w.heap[b]?=w.heap[b]?:=fun b hb=>⟨hfz b hb,rfl⟩
 have hnd0:=hr.nodup id
 rw [hfp] at hnd0
 have hlt:=hr.lt id
 rw [hfp] at hlt
 have hf1:∀b∈f1,frz E fp' w b:=fun b hb=>by
  refine ⟨hlt b (by simp [hb]),fun hB=>?_,fun k hk=>?_⟩
  ·rcases hr.fresh id b (by rw [hfp];simp [hb]) with h|h
   ·omega
   ·exact .inr h
  ·by_cases e:k=id
   ·subst e
    simp only [fp',if_true,zl009] at hk
    subst hk
    exact (zl033.1 hnd0).1 hb
   ·simp only [fp',if_neg e] at hk
    exact hr.apart k id e b hk (by rw [hfp];simp [hb])
 have hs:OW (frz E fp' w) w.heap dG (stripL cs) cur.toList []:=how.strip (fun _ _ h=>h) hf1 hfz
 refine ⟨loc,fp',⟨hr.below,hr.base,hr.size,fun k hkd=>?_,fun k hkd=>?_,fun k hkn=>?_,fun k=>?_,fun i j hij b hb hb'=>?_,fun k b hb=>hr.fresh k b (hsub k b hb),fun t=>?_,hr.defers⟩⟩
 ·rw [hM] at hkd ⊢
  by_cases e:id=k
  ·subst e
   rw [if_pos rfl]
   simp only [fp',if_true]
   rw [hloc]
   exact .optr hg hs .nil
  ·rw [if_neg e] at hkd ⊢
   simp only [fp',if_neg (fun h=>e h.symm:¬ k=id)]
   exact (hr.tree k hkd).stable (fun _ _=>rfl) hF (fun _ _ h=>h)
 ·rw [hM] at hkd
  by_cases e:id=k
  ·subst e;rw [if_pos rfl] at hkd;cases hkd
  ·rw [if_neg e] at hkd
   simp only [fp',if_neg (fun h=>e h.symm:¬ k=id)]
   exact hr.gone k hkd
 ·rw [hM]
  by_cases e:id=k
  ·subst e
   have:=hr.new id hkn
   rw [hid] at this;cases this
  ·rw [if_neg e];exact hr.new k hkn
 ·by_cases e:k=id
  ·simp only [fp',if_pos e];simp
  ·simp only [fp',if_neg e];exact hr.nodup k
 ·exact hr.apart i j hij b (hsub i b hb) (hsub j b hb')
 ·have hS:(⟨s.sl.map fun p=>(p.1,p.2.kill id 0),(id,.optr (stripL cs))::s.st,s.nx⟩:St).S t=(s.S t).kill id 0:=by
   show au t (s.sl.map _)=_
   unfold St.S
   generalize s.sl=l
   induction l with
   | nil=>rfl
   | cons p r ih =>
    obtain ⟨k,v⟩:=p
    simp only [dP,au]
    split
    ·rfl
    ·exact ih
  rw [hS]
  refine (hk t).stable (fun _ h=>by cases h) hF ?_
  rintro v rv ⟨hv,hc⟩
  obtain ⟨i,hi,hilt⟩:=hv.isRef
  by_cases e:i=id
  ·subst e
   cases v<;>simp only [dW,bT,reduceCtorEq] at hi
   ·subst hi
    rename_i p sz off n
    obtain ⟨a1,a2,a0,a4,a3⟩:=hv
    have hp:p=[]:=by
     have:=hc _ p (.inl ⟨_,_,_,rfl⟩)
     cases p with
     | nil=>rfl
     | cons=>exact absurd ⟨rfl,by simp⟩ this
    subst hp
    have:s.M _=.optr cs:=hid
    exact absurd this (a4 cs)
   ·subst hi
    rename_i p off
    obtain ⟨a1,a2,a0,a3⟩:=hv
    have hp:p=[]:=by
     have:=hc _ p (.inr (.inl ⟨_,rfl⟩))
     cases p with
     | nil=>rfl
     | cons=>exact absurd ⟨rfl,by simp⟩ this
    subst hp
    refine ⟨a1,a2,a0,fun _=>?_⟩
    have h1:s.M _=.optr cs:=hid
    exact a3 (by show isPt (s.M _);rw [h1];trivial)
   ·subst hi
    rename_i p
    obtain ⟨a1,a2,a0,a4,a3⟩:=hv
    have hp:p=[]:=by
     have:=hc _ p (.inr (.inr rfl))
     cases p with
     | nil=>rfl
     | cons=>exact absurd ⟨rfl,by simp⟩ this
    subst hp
    have:s.M _=.optr cs:=hid
    exact absurd this (a4 cs)
  ·exact hv.stay hr (aY _) hi (by rw [hM,if_neg (fun h=>e h.symm)]) rfl (fun _ _=>rfl)
theorem EY {P:Program} {k:List HI} {Q:HE->St->Prop} {x:HCode} {sl st:List (Nat×HV)} {nx:Nat} (id:Nat) (keep:List Nat) {cs:List HV} (s0:St) (hid:au id st=.optr cs)
  (hn:norm2 keep ⟨sl.map fun p=>(p.1,p.2.kill id 0),(id,.optr (stripL cs))::st,nx⟩=s0) (h:hx P (.c x::k) Q s0):hx P (.c x::k) Q ⟨sl,st,nx⟩ :=
 qj ((Weak.freezeIn (s:=⟨sl,st,nx⟩) id hid).trans (hn▸Weak.norm2 keep _)) h
theorem HTI.frozen {P:Program} {f:FuncId} {args:List HV} {j:Nat} {K:HV->List HV->Prop} (h:HTI P f args [j] K) (hK:∀r o,K r o->∃cs,o=[.optr cs]):HTI P f args [j] (fun r outs=>∃cs,K r [.optr cs]/\outs=[.optr (stripL cs)]):=by
 refine ⟨h.1,fun w rargs F fa h1 h2 h3 h4=>(h.2 w rargs F fa h1 h2 h3 h4).mono ?_⟩
 rintro e w' ⟨rv,res,outs,fs,he,hk,ho,hnd,hfs,hb⟩
 obtain ⟨cs,rfl⟩:=hK _ _ hk
 have hlt:=ho.lt
 obtain ⟨f1,f2,rfl,o1,o2⟩:=ho.split1
 have key:∀ (F2:Nat->Prop) (rr:List Value) (fs:List Nat),OW F2 w'.heap dG [.optr cs] rr fs->∃g cur e2 f3,rr=[.pointer (some ⟨g,0,none⟩)]/\fs=g::f3/\w'.heap[g]?=some (.cells cur e2 (0,0))/\OW F2 w'.heap dG cs cur.toList f3:=by
  intro F2 rr fs o
  cases o with
  | leaf _ _ h3=>exact absurd rfl (h3.1 _)
  | @optr _ _ g cur e f1 _ _ _ h1 h2 h3 =>
   cases h3
   exact ⟨g,cur,e,f1,rfl,by simp,h1,h2⟩
 obtain ⟨g,cur,e2,f3,hrb,rfl,hg,how⟩:=key _ _ _ o2
 rw [zl008] at hnd
 have hsub:∀b,b∈f1++[g]->b∈f1++g::f3:=fun b hb=>by
  rcases zl002.1 hb with h|h
  ·exact List.mem_append_left _ h
  ·simp at h;subst h;simp
 have hF:∀b,(F b\/((b<w.heap.size->b∈fa)/\b<w'.heap.size/\b ∉ f1++g::f3))->(F b\/((b<w.heap.size->b∈fa)/\b<w'.heap.size/\b ∉ f1++[g])):=fun b hb=>by
  rcases hb with h|⟨a1,a2,a3⟩
  ·exact .inl h
  ·exact .inr ⟨a1,a2,fun h=>a3 (hsub b h)⟩
 have hf3:∀b∈f3,(F b\/((b<w.heap.size->b∈fa)/\b<w'.heap.size/\b ∉ f1++[g])):=fun b hb=>by
  refine .inr ⟨fun hlt2=>?_,hlt b (by simp [hb]),fun h=>?_⟩
  ·rcases hfs b (by simp [hb]) with h|h
   ·omega
   ·exact h
  ·rcases zl002.1 h with h|h
   ·exact hnd.2.2 b h b (by simp [hb]) rfl
   ·simp at h;subst h
    exact (zl033.1 hnd.2.1).1 hb
 have hs:=how.strip (fun _ _ h=>h) hf3 hF
 refine ⟨rv,res,_,f1++[g],he,⟨cs,hk,rfl⟩,?_,?_,fun b hb=>hfs b (hsub b hb),hb⟩
 ·rw [hrb]
  refine OW.cons1 (o1.stable (fun _ _=>rfl) (fun b hb=>⟨hF b hb,rfl⟩) (fun _ _ h=>h)) ?_
  have:=OW.optr (F:=fun b=>F b\/((b<w.heap.size->b∈fa)/\b<w'.heap.size/\b ∉ f1++[g])) (R:=dG) hg hs .nil
  simpa using this
 ·rw [zl008]
  exact ⟨hnd.1,by simp,fun a ha b hb=>by simp at hb;subst hb;exact hnd.2.2 a ha b (by simp)⟩
theorem HTI.ro {P:Program} {f:FuncId} {pre post:List HV} {sz n:Nat} {cs:List HV} {io:List Nat} {K:HV->List HV->Prop} (h:HTI P f (pre++.sl n (stripL cs)::post) io K):HTI P f (pre++.osl sz n cs::post) io K:=by
 refine ⟨h.1,fun w rargs F fa h1 h2 h3 h4=>?_⟩
 have hlt:=h2.lt
 obtain ⟨r1,r2',f1,f2',rfl,rfl,hl1,o1,o2'⟩:=h2.splitAt
 obtain ⟨rv,r2,rfl⟩:∃rv r2,r2'=rv::r2:=by
  have:=o2'.length
  cases r2' with
  | nil=>simp at this
  | cons a b=>exact ⟨a,b,rfl⟩
 obtain ⟨f2,f3,rfl,o2,o3⟩:=o2'.split1
 rw [zl008,zl008] at h3
 have hF:∀b,F b->F b\/b∈f2:=fun b hb=>.inl hb
 have o2s:OW (fun b=>F b\/b∈f2) w.heap dG [.sl n (stripL cs)] [rv] []:=by
  have:=o2.strip (F':=fun b=>F b\/b∈f2) (fun _ _ h=>h) (fun b hb=>.inr hb) hF
  simpa [stripL,HV.strip] using this
 have oa:OW (fun b=>F b\/b∈f2) w.heap dG (pre++.sl n (stripL cs)::post) (r1++rv::r2) (f1++f3):=by
  refine OW.append (o1.stable (fun _ _=>rfl) (fun b hb=>⟨hF b hb,rfl⟩) (fun _ _ h=>h)) ?_
  have:=o2s.cons1 (o3.stable (fun _ _=>rfl) (fun b hb=>⟨hF b hb,rfl⟩) (fun _ _ h=>h))
  simpa using this
 have hsub:∀b,b∈f1++f3->b∈f1++(f2++f3):=fun b hb=>by
  rcases zl002.1 hb with hb|hb
  ·simp [hb]
  ·simp [hb]
 have hdis:∀b,b∈f1++f3->b ∉ f2:=fun b hb hb2=>by
  rcases zl002.1 hb with hb|hb
  ·exact h3.2.2 b hb b (by simp [hb2]) rfl
  ·exact h3.2.1.2.2 b hb2 b hb rfl
 refine (h.2 w (r1++rv::r2) (fun b=>F b\/b∈f2) (f1++f3) (fun b hb=>?_) oa ?_ (fun b hb hb2=>?_)).mono ?_
 ·rcases hb with hb|hb
  ·exact h1 b hb
  ·exact hlt b (by simp [hb])
 ·rw [zl008]
  exact ⟨h3.1,h3.2.1.2.1,fun a ha b hb=>h3.2.2 a ha b (by simp [hb])⟩
 ·rcases hb2 with hb2|hb2
  ·exact h4 b (hsub b hb) hb2
  ·exact hdis b hb hb2
 ·rintro e w' ⟨rv',res,outs,fs,a,b,c,d,e1,g1⟩
  refine ⟨rv',res,outs,fs,a,b,c.stable (fun _ _=>rfl) (fun x hx=>⟨?_,rfl⟩) (fun _ _ h=>h),d,fun x hx=>?_,?_⟩
  ·rcases hx with (hx|hx)|⟨hx1,hx2,hx3⟩
   ·exact .inl hx
   ·have hxl:=hlt x (by simp [hx])
    refine .inr ⟨fun _=>by simp [hx],lI hxl g1.size,fun hxf=>?_⟩
    rcases e1 x hxf with h|h
    ·omega
    ·exact hdis x h hx
   ·exact .inr ⟨fun hl=>hsub x (hx1 hl),hx2,hx3⟩
  ·rcases e1 x hx with h|h
   ·exact .inl h
   ·exact .inr (hsub x h)
  ·exact ⟨g1.os,g1.tape,g1.output,g1.size,fun k hk hg=>g1.block k hk fun h=>hg (hsub k h)⟩
end Go.HL
end
