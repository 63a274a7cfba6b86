import Derived.Test.YteamkjblpglliaaHl5
import Derived.Test.YteamkjblpglliaaAbC
section
set_option linter.unusedSimpArgs false
set_option linter.unusedVariables false
namespace Go.HL
open Go.RowKit
def ac6:Nat->HV->HV
 | z+1,.nils=>.osl (z+1) 0 []
 | _,v=>v
def mi:List Nat->List HV->List HV
 | z::zs,v::vs=>ac6 z v::mi zs vs
 | [],vs=>vs
 | _::_,[]=>[]
theorem Ol {F:Nat->Prop} {h:Hp} {R:HV->Value->Prop} {vs:List HV} {rvs:List Value} {fs:List Nat} (o:OW F h R vs rvs fs):∀zs,OW F h R (mi zs vs) rvs fs:=by
 have other:∀ {z:Nat} {v:HV},v≠.nils->ac6 z v=v:=by
  intro z v h
  cases z<;>cases v<;>first|rfl|exact absurd rfl h
 induction o with
 | nil=>intro zs;cases zs<;>exact .nil
 | @leaf R v rv r rr fs a b c d e f g h ih =>
  intro zs
  cases zs with
  | nil=>exact .leaf a b c d e f g h
  | cons z zs =>
   rw [mi,other (by intro e;subst e;cases a)]
   exact .leaf a b c d e f g (ih zs)
 | int h ih=>intro zs;cases zs with
  | nil=>exact .int h
  | cons z zs=>rw [mi,other (by simp)];exact .int (ih zs)
 | bool h ih=>intro zs;cases zs with
  | nil=>exact .bool h
  | cons z zs=>rw [mi,other (by simp)];exact .bool (ih zs)
 | str h ih=>intro zs;cases zs with
  | nil=>exact .str h
  | cons z zs=>rw [mi,other (by simp)];exact .str (ih zs)
 | nils h ih=>intro zs;cases zs with
  | nil=>exact .nils h
  | cons z zs=>cases z with
   | zero=>exact .nils (ih zs)
   | succ z=>exact .osl0 (ih zs)
 | nilp h ih=>intro zs;cases zs with
  | nil=>exact .nilp h
  | cons z zs=>rw [mi,other (by simp)];exact .nilp (ih zs)
 | nilf h ih=>intro zs;cases zs with
  | nil=>exact .nilf h
  | cons z zs=>rw [mi,other (by simp)];exact .nilf (ih zs)
 | dead h ih=>intro zs;cases zs with
  | nil=>exact .dead h
  | cons z zs=>rw [mi,other (by simp)];exact .dead (ih zs)
 | sl0 h ih=>intro zs;cases zs with
  | nil=>exact .sl0 h
  | cons z zs=>rw [mi,other (by simp)];exact .sl0 (ih zs)
 | sl a b c d e h _ ih=>intro zs;cases zs with
  | nil=>exact .sl a b c d e h
  | cons z zs=>rw [mi,other (by simp)];exact .sl a b c d e (ih zs)
 | osl0 h ih=>intro zs;cases zs with
  | nil=>exact .osl0 h
  | cons z zs=>rw [mi,other (by simp)];exact .osl0 (ih zs)
 | osl a b c d e f g h _ ih=>intro zs;cases zs with
  | nil=>exact .osl a b c d e f g h
  | cons z zs=>rw [mi,other (by simp)];exact .osl a b c d e f g (ih zs)
 | ptr a b c d h _ ih=>intro zs;cases zs with
  | nil=>exact .ptr a b c d h
  | cons z zs=>rw [mi,other (by simp)];exact .ptr a b c d (ih zs)
 | optr a b h _ ih=>intro zs;cases zs with
  | nil=>exact .optr a b h
  | cons z zs=>rw [mi,other (by simp)];exact .optr a b (ih zs)
 | agg a h _ ih=>intro zs;cases zs with
  | nil=>exact .agg a h
  | cons z zs=>rw [mi,other (by simp)];exact .agg a (ih zs)
 | tup a h _ ih=>intro zs;cases zs with
  | nil=>exact .tup a h
  | cons z zs=>rw [mi,other (by simp)];exact .tup a (ih zs)
 | fn a h _ ih=>intro zs;cases zs with
  | nil=>exact .fn a h
  | cons z zs=>rw [mi,other (by simp)];exact .fn a (ih zs)
theorem Weak.ownBox {s:St} (id:Nat) (zs:List Nat) {cs:List HV} (hid:s.M id=.optr cs):Weak s ⟨s.sl.map fun p=>(p.1,p.2.kill id 0),(id,.optr (mi zs cs))::s.st,s.nx⟩:=by
 intro E a w ⟨loc,fp,hr⟩
 have hM:∀k,(⟨s.sl.map fun p=>(p.1,p.2.kill id 0),(id,.optr (mi zs cs))::s.st,s.nx⟩:St).M k=if id=k then .optr (mi zs cs) else s.M k:=fun k=>rfl
 obtain ⟨-,hk⟩:=hr.kill id 0
 refine ⟨loc,fp,⟨hr.below,hr.base,hr.size,fun k hkd=>?_,fun k hkd=>?_,fun k hkn=>?_,hr.nodup,hr.apart,hr.fresh,fun t=>?_,hr.defers⟩⟩
 ·rw [hM] at hkd ⊢
  by_cases e:id=k
  ·subst e
   rw [if_pos rfl]
   have htr:=hr.tree id (by rw [hid];simp)
   rw [hid] at htr
   generalize hl:loc id=lv at htr ⊢
   generalize hf:fp id=fs at htr ⊢
   cases htr with
   | leaf _ _ h3=>exact absurd rfl (h3 _)
   | optr h1 h2 h3=>exact .optr h1 (Ol h2 zs) h3
  ·rw [if_neg e] at hkd ⊢
   exact hr.tree k hkd
 ·rw [hM] at hkd
  by_cases e:id=k
  ·subst e;rw [if_pos rfl] at hkd;cases hkd
  ·rw [if_neg e] at hkd;exact hr.gone k hkd
 ·rw [hM]
  by_cases e:id=k
  ·subst e
   have:=hr.new id hkn
   rw [hid] at this;cases this
  ·rw [if_neg e];exact hr.new k hkn
 ·have hS:(⟨s.sl.map fun p=>(p.1,p.2.kill id 0),(id,.optr (mi zs cs))::s.st,s.nx⟩:St).S t=(s.S t).kill id 0:=by
   show aX t (s.sl.map _)=_
   unfold St.S
   generalize s.sl=l
   induction l with
   | nil=>rfl
   | cons p r ih =>
    obtain ⟨k,v⟩:=p
    simp only [List.map_cons,aX]
    split
    ·rfl
    ·exact ih
  rw [hS]
  refine (hk t).stable (fun _ _=>rfl) (fun _ h=>⟨h,rfl⟩) ?_
  rintro v rv ⟨hv,hc⟩
  obtain ⟨i,hi,hilt⟩:=hv.isRef
  by_cases e:i=id
  ·subst e
   cases v<;>simp only [fG,Option.some.injEq,reduceCtorEq] at hi
   ·subst hi
    rename_i p sz off n
    obtain ⟨a1,a2,a0,a4,a3⟩:=hv
    have hp:p=[]:=by
     have:=hc _ p (.inl ⟨_,_,_,rfl⟩)
     cases p with
     | nil=>rfl
     | cons=>exact absurd ⟨rfl,by simp⟩ this
    subst hp
    have:s.M _=.optr cs:=hid
    exact absurd this (a4 cs)
   ·subst hi
    rename_i p off
    obtain ⟨a1,a2,a0,a3⟩:=hv
    have hp:p=[]:=by
     have:=hc _ p (.inr ⟨_,rfl⟩)
     cases p with
     | nil=>rfl
     | cons=>exact absurd ⟨rfl,by simp⟩ this
    subst hp
    refine ⟨a1,a2,a0,fun _=>?_⟩
    have h1:s.M _=.optr cs:=hid
    exact a3 (by show isNode (s.M _);rw [h1];trivial)
  ·exact hv.stay hr (Nat.le_refl _) hi (by rw [hM,if_neg (fun h=>e h.symm)]) rfl (fun _ _=>rfl)
theorem Jf {P:Program} {k:List HI} {Q:HE->St->Prop} {x:HCode} {sl st:List (Nat×HV)} {nx:Nat} (id:Nat) (zs:List Nat) (keep:List Nat) {cs:List HV} (s0:St) (hid:aX id st=.optr cs)
  (hn:norm2 keep ⟨sl.map fun p=>(p.1,p.2.kill id 0),(id,.optr (mi zs cs))::st,nx⟩=s0) (h:hx P (.c x::k) Q s0):hx P (.c x::k) Q ⟨sl,st,nx⟩ :=
 lM ((Weak.ownBox (s:=⟨sl,st,nx⟩) id zs hid).trans (hn▸Weak.norm2 keep _)) h
end Go.HL
end
section
set_option linter.unusedSimpArgs false
set_option linter.unusedVariables false
namespace Go.HL
open Go.RowKit
theorem Weak.freezeIn {s:St} (id:Nat) {cs:List HV} (hid:s.M id=.optr cs):Weak s ⟨s.sl.map fun p=>(p.1,p.2.kill id 0),(id,.optr (stripL cs))::s.st,s.nx⟩:=by
 intro E a w ⟨loc,fp,hr⟩
 have hM:∀k,(⟨s.sl.map fun p=>(p.1,p.2.kill id 0),(id,.optr (stripL cs))::s.st,s.nx⟩:St).M k=if id=k then .optr (stripL cs) else s.M k:=fun k=>rfl
 obtain ⟨-,hk⟩:=hr.kill id 0
 have htr:=hr.tree id (by rw [hid];simp)
 rw [hid] at htr
 obtain ⟨g,cur,e,f1,hloc,hfp,hg,how⟩:∃g cur e f1,loc id=.pointer (some ⟨g,0,none⟩)/\fp id=g::f1/\w.heap[g]?=some (.cells cur e (0,0))/\OW (fV E fp w) w.heap dN cs cur.toList f1:=by
  generalize loc id=lv at htr
  generalize fp id=fs at htr
  cases htr with
  | leaf _ _ h3=>exact absurd rfl (h3 _)
  | @optr _ _ g cur e f1 _ _ _ h1 h2 h3 =>
   cases h3
   exact ⟨g,cur,e,f1,rfl,by simp,h1,h2⟩
 let fp':Nat->List Nat:=fun k=>if k=id then [g] else fp k
 have hsub:∀k b,b∈fp' k->b∈fp k:=fun k b hb=>by
  simp only [fp'] at hb
  split at hb
  ·rename_i hk;rw [hk,hfp];simp at hb;simp [hb]
  ·exact hb
 have hfz:∀b,fV E fp w b->fV E fp' w b:=fun b ⟨h1,h2,h3⟩=>⟨h1,h2,fun k hk=>h3 k (hsub k b hk)⟩
 have hF:∀b,fV E fp w b->fV E fp' w b/\w.heap[b]?=w.heap[b]?:=fun b hb=>⟨hfz b hb,rfl⟩
 have hnd0:=hr.nodup id
 rw [hfp] at hnd0
 have hlt:=hr.lt id
 rw [hfp] at hlt
 have hf1:∀b∈f1,fV E fp' w b:=fun b hb=>by
  refine ⟨hlt b (by simp [hb]),fun hB=>?_,fun k hk=>?_⟩
  ·rcases hr.fresh id b (by rw [hfp];simp [hb]) with h|h
   ·omega
   ·exact .inr h
  ·by_cases e:k=id
   ·subst e
    simp only [fp',if_true,List.mem_singleton] at hk
    subst hk
    exact (List.nodup_cons.1 hnd0).1 hb
   ·simp only [fp',if_neg e] at hk
    exact hr.apart k id e b hk (by rw [hfp];simp [hb])
 have hs:OW (fV E fp' w) w.heap dN (stripL cs) cur.toList []:=how.strip (fun _ _ h=>h) hf1 hfz
 refine ⟨loc,fp',⟨hr.below,hr.base,hr.size,fun k hkd=>?_,fun k hkd=>?_,fun k hkn=>?_,fun k=>?_,fun i j hij b hb hb'=>?_,fun k b hb=>hr.fresh k b (hsub k b hb),fun t=>?_,hr.defers⟩⟩
 ·rw [hM] at hkd ⊢
  by_cases e:id=k
  ·subst e
   rw [if_pos rfl]
   simp only [fp',if_true]
   rw [hloc]
   exact .optr hg hs .nil
  ·rw [if_neg e] at hkd ⊢
   simp only [fp',if_neg (fun h=>e h.symm:¬ k=id)]
   exact (hr.tree k hkd).stable (fun _ _=>rfl) hF (fun _ _ h=>h)
 ·rw [hM] at hkd
  by_cases e:id=k
  ·subst e;rw [if_pos rfl] at hkd;cases hkd
  ·rw [if_neg e] at hkd
   simp only [fp',if_neg (fun h=>e h.symm:¬ k=id)]
   exact hr.gone k hkd
 ·rw [hM]
  by_cases e:id=k
  ·subst e
   have:=hr.new id hkn
   rw [hid] at this;cases this
  ·rw [if_neg e];exact hr.new k hkn
 ·by_cases e:k=id
  ·simp only [fp',if_pos e];simp
  ·simp only [fp',if_neg e];exact hr.nodup k
 ·exact hr.apart i j hij b (hsub i b hb) (hsub j b hb')
 ·have hS:(⟨s.sl.map fun p=>(p.1,p.2.kill id 0),(id,.optr (stripL cs))::s.st,s.nx⟩:St).S t=(s.S t).kill id 0:=by
   show aX t (s.sl.map _)=_
   unfold St.S
   generalize s.sl=l
   induction l with
   | nil=>rfl
   | cons p r ih =>
    obtain ⟨k,v⟩:=p
    simp only [List.map_cons,aX]
    split
    ·rfl
    ·exact ih
  rw [hS]
  refine (hk t).stable (fun _ h=>by cases h) hF ?_
  rintro v rv ⟨hv,hc⟩
  obtain ⟨i,hi,hilt⟩:=hv.isRef
  by_cases e:i=id
  ·subst e
   cases v<;>simp only [fG,Option.some.injEq,reduceCtorEq] at hi
   ·subst hi
    rename_i p sz off n
    obtain ⟨a1,a2,a0,a4,a3⟩:=hv
    have hp:p=[]:=by
     have:=hc _ p (.inl ⟨_,_,_,rfl⟩)
     cases p with
     | nil=>rfl
     | cons=>exact absurd ⟨rfl,by simp⟩ this
    subst hp
    have:s.M _=.optr cs:=hid
    exact absurd this (a4 cs)
   ·subst hi
    rename_i p off
    obtain ⟨a1,a2,a0,a3⟩:=hv
    have hp:p=[]:=by
     have:=hc _ p (.inr ⟨_,rfl⟩)
     cases p with
     | nil=>rfl
     | cons=>exact absurd ⟨rfl,by simp⟩ this
    subst hp
    refine ⟨a1,a2,a0,fun _=>?_⟩
    have h1:s.M _=.optr cs:=hid
    exact a3 (by show isNode (s.M _);rw [h1];trivial)
  ·exact hv.stay hr (Nat.le_refl _) hi (by rw [hM,if_neg (fun h=>e h.symm)]) rfl (fun _ _=>rfl)
theorem jb {P:Program} {k:List HI} {Q:HE->St->Prop} {x:HCode} {sl st:List (Nat×HV)} {nx:Nat} (id:Nat) (keep:List Nat) {cs:List HV} (s0:St) (hid:aX id st=.optr cs)
  (hn:norm2 keep ⟨sl.map fun p=>(p.1,p.2.kill id 0),(id,.optr (stripL cs))::st,nx⟩=s0) (h:hx P (.c x::k) Q s0):hx P (.c x::k) Q ⟨sl,st,nx⟩ :=
 lM ((Weak.freezeIn (s:=⟨sl,st,nx⟩) id hid).trans (hn▸Weak.norm2 keep _)) h
theorem HTI.frozen {P:Program} {f:FuncId} {args:List HV} {j:Nat} {K:HV->List HV->Prop} (h:HTI P f args [j] K) (hK:∀r o,K r o->∃cs,o=[.optr cs]):HTI P f args [j] (fun r outs=>∃cs,K r [.optr cs]/\outs=[.optr (stripL cs)]):=by
 refine ⟨h.1,fun w rargs F fa h1 h2 h3 h4=>(h.2 w rargs F fa h1 h2 h3 h4).mono ?_⟩
 rintro e w' ⟨rv,res,outs,fs,he,hk,ho,hnd,hfs,hb⟩
 obtain ⟨cs,rfl⟩:=hK _ _ hk
 have hlt:=ho.lt
 obtain ⟨f1,f2,rfl,o1,o2⟩:=ho.split1
 have key:∀ (F2:Nat->Prop) (rr:List Value) (fs:List Nat),OW F2 w'.heap dN [.optr cs] rr fs->∃g cur e2 f3,rr=[.pointer (some ⟨g,0,none⟩)]/\fs=g::f3/\w'.heap[g]?=some (.cells cur e2 (0,0))/\OW F2 w'.heap dN cs cur.toList f3:=by
  intro F2 rr fs o
  cases o with
  | leaf _ _ h3=>exact absurd rfl (h3 _)
  | @optr _ _ g cur e f1 _ _ _ h1 h2 h3 =>
   cases h3
   exact ⟨g,cur,e,f1,rfl,by simp,h1,h2⟩
 obtain ⟨g,cur,e2,f3,hrb,rfl,hg,how⟩:=key _ _ _ o2
 rw [List.nodup_append] at hnd
 have hsub:∀b,b∈f1++[g]->b∈f1++g::f3:=fun b hb=>by
  rcases List.mem_append.1 hb with h|h
  ·exact List.mem_append_left _ h
  ·simp at h;subst h;simp
 have hF:∀b,(F b\/((b<w.heap.size->b∈fa)/\b<w'.heap.size/\b ∉ f1++g::f3))->(F b\/((b<w.heap.size->b∈fa)/\b<w'.heap.size/\b ∉ f1++[g])):=fun b hb=>by
  rcases hb with h|⟨a1,a2,a3⟩
  ·exact .inl h
  ·exact .inr ⟨a1,a2,fun h=>a3 (hsub b h)⟩
 have hf3:∀b∈f3,(F b\/((b<w.heap.size->b∈fa)/\b<w'.heap.size/\b ∉ f1++[g])):=fun b hb=>by
  refine .inr ⟨fun hlt2=>?_,hlt b (by simp [hb]),fun h=>?_⟩
  ·rcases hfs b (by simp [hb]) with h|h
   ·omega
   ·exact h
  ·rcases List.mem_append.1 h with h|h
   ·exact hnd.2.2 b h b (by simp [hb]) rfl
   ·simp at h;subst h
    exact (List.nodup_cons.1 hnd.2.1).1 hb
 have hs:=how.strip (fun _ _ h=>h) hf3 hF
 refine ⟨rv,res,_,f1++[g],he,⟨cs,hk,rfl⟩,?_,?_,fun b hb=>hfs b (hsub b hb),hb⟩
 ·rw [hrb]
  refine OW.cons1 (o1.stable (fun _ _=>rfl) (fun b hb=>⟨hF b hb,rfl⟩) (fun _ _ h=>h)) ?_
  have:=OW.optr (F:=fun b=>F b\/((b<w.heap.size->b∈fa)/\b<w'.heap.size/\b ∉ f1++[g])) (R:=dN) hg hs .nil
  simpa using this
 ·rw [List.nodup_append]
  exact ⟨hnd.1,by simp,fun a ha b hb=>by simp at hb;subst hb;exact hnd.2.2 a ha b (by simp)⟩
theorem HTI.ro {P:Program} {f:FuncId} {pre post:List HV} {sz n:Nat} {cs:List HV} {io:List Nat} {K:HV->List HV->Prop} (h:HTI P f (pre++.sl n (stripL cs)::post) io K):HTI P f (pre++.osl sz n cs::post) io K:=by
 refine ⟨h.1,fun w rargs F fa h1 h2 h3 h4=>?_⟩
 have hlt:=h2.lt
 obtain ⟨r1,r2',f1,f2',rfl,rfl,hl1,o1,o2'⟩:=h2.splitAt
 obtain ⟨rv,r2,rfl⟩:∃rv r2,r2'=rv::r2:=by
  have:=o2'.length
  cases r2' with
  | nil=>simp at this
  | cons a b=>exact ⟨a,b,rfl⟩
 obtain ⟨f2,f3,rfl,o2,o3⟩:=o2'.split1
 rw [List.nodup_append,List.nodup_append] at h3
 have hF:∀b,F b->F b\/b∈f2:=fun b hb=>.inl hb
 have o2s:OW (fun b=>F b\/b∈f2) w.heap dN [.sl n (stripL cs)] [rv] []:=by
  have:=o2.strip (F':=fun b=>F b\/b∈f2) (fun _ _ h=>h) (fun b hb=>.inr hb) hF
  simpa [stripL,HV.strip] using this
 have oa:OW (fun b=>F b\/b∈f2) w.heap dN (pre++.sl n (stripL cs)::post) (r1++rv::r2) (f1++f3):=by
  refine OW.append (o1.stable (fun _ _=>rfl) (fun b hb=>⟨hF b hb,rfl⟩) (fun _ _ h=>h)) ?_
  have:=o2s.cons1 (o3.stable (fun _ _=>rfl) (fun b hb=>⟨hF b hb,rfl⟩) (fun _ _ h=>h))
  simpa using this
 have hsub:∀b,b∈f1++f3->b∈f1++(f2++f3):=fun b hb=>by
  rcases List.mem_append.1 hb with hb|hb
  ·simp [hb]
  ·simp [hb]
 have hdis:∀b,b∈f1++f3->b ∉ f2:=fun b hb hb2=>by
  rcases List.mem_append.1 hb with hb|hb
  ·exact h3.2.2 b hb b (by simp [hb2]) rfl
  ·exact h3.2.1.2.2 b hb2 b hb rfl
 refine (h.2 w (r1++rv::r2) (fun b=>F b\/b∈f2) (f1++f3) (fun b hb=>?_) oa ?_ (fun b hb hb2=>?_)).mono ?_
 ·rcases hb with hb|hb
  ·exact h1 b hb
  ·exact hlt b (by simp [hb])
 ·rw [List.nodup_append]
  exact ⟨h3.1,h3.2.1.2.1,fun a ha b hb=>h3.2.2 a ha b (by simp [hb])⟩
 ·rcases hb2 with hb2|hb2
  ·exact h4 b (hsub b hb) hb2
  ·exact hdis b hb hb2
 ·rintro e w' ⟨rv',res,outs,fs,a,b,c,d,e1,g1⟩
  refine ⟨rv',res,outs,fs,a,b,c.stable (fun _ _=>rfl) (fun x hx=>⟨?_,rfl⟩) (fun _ _ h=>h),d,fun x hx=>?_,?_⟩
  ·rcases hx with (hx|hx)|⟨hx1,hx2,hx3⟩
   ·exact .inl hx
   ·have hxl:=hlt x (by simp [hx])
    refine .inr ⟨fun _=>by simp [hx],Nat.lt_of_lt_of_le hxl g1.size,fun hxf=>?_⟩
    rcases e1 x hxf with h|h
    ·omega
    ·exact hdis x h hx
   ·exact .inr ⟨fun hl=>hsub x (hx1 hl),hx2,hx3⟩
  ·rcases e1 x hx with h|h
   ·exact .inl h
   ·exact .inr (hsub x h)
  ·exact ⟨g1.os,g1.tape,g1.output,g1.size,fun k hk hg=>g1.block k hk fun h=>hg (hsub k h)⟩
end Go.HL
end
section
set_option linter.unusedSimpArgs false
set_option linter.unusedVariables false
namespace Go.Proofs.Yteamkjblpglliaa
open Go.RowKit Go.SL Go.HL
theorem nX (set:List Bool) (h0:0<set.length) (hl:set.length<=100000):HT Try.prog 54 [Bl set] (fun r=>r=.osl 1 set.length (HL.bools set)):=by
 refine HT.of rfl aei (Nat.le_of_ble_eq_true rfl) ?_
 unfold c54
 simp only [Bl,aP,Nat.reduceAdd]
 repeat (first|refine ah ?_|refine ag ?_|refine au ?_|refine ak ?_|refine ae ?_|refine aA ?_|refine eU rfl (by rfl) gU ?_|refine dF ?_|refine kK ?_|refine TE (by rfl) (by omega) ?_)
 refine ay ?_
 rfl
theorem LC (a b:List Bool) (hl:a.length<=100000) (hb:b.length<=100000):HT Try.prog 62 [Bl a,Bl b] (fun r=>r=.bool (decide (a=b))):=by
 refine HT.of rfl afw (Nat.le_of_ble_eq_true rfl) ?_
 unfold c62
 simp only [Bl,aP,Nat.reduceAdd]
 by_cases hab:a.length=b.length
 ·repeat (first|refine ah ?_|refine ag ?_|refine aW ?_|refine aF ?_|refine au ?_|refine ak ?_|refine ae ?_|refine aB ?_|refine aA ?_)
  refine bD [0,1,11,12,13] (fun i:Nat=>i<=a.length/\a.take i=b.take i)
   (fun i=>⟨[(0,.sl a.length (HL.bools a)),(1,.sl b.length (HL.bools b)),(11,.sl a.length (HL.bools a)),(12,.int .i64 a.length),(13,.int .i64 i)],[],0⟩) (fun i=>a.length - i) 0 ⟨by omega,by simp⟩ rfl ?_
  rintro i ⟨hi,hE⟩
  by_cases hil:i<a.length
  ·have ta:=cO a i false hil
   have tb:=cO b i false (by omega)
   obtain ⟨x,hx⟩:∃x,a.getD i false=x:=⟨_,rfl⟩
   obtain ⟨y,hy⟩:∃x,b.getD i false=x:=⟨_,rfl⟩
   by_cases hxy:x=y
   ·subst hxy
    repeat (first|refine ah ?_|refine ag ?_|refine az ?_|refine ax ?_|refine ak ?_|refine ae ?_|refine aB ?_|refine aA ?_)
    refine bQ bi bi (fun _ _ _=>False) ?_
    repeat (first|refine ah ?_|refine aN ?_|refine bK (by rfl) aT (by (try simp (disch:=omega) only [go_sem,hx,hy]);try rfl) ?_|refine ag ?_|refine di (by rfl) (by rfl) (by (try simp (disch:=omega) only [go_sem,Int.reduceAdd,Int.reduceSub,Int.reduceMul,hx,hy]);try rfl) ?_|refine au ?_|refine ae ?_|refine dh ?_|refine aA ?_|refine Aa (by rfl) (by rfl) (by (try simp only [go_sem,reduceIte,hx,hy]);try rfl) ?_)
    exact bJ [0,1,11,12,13] (i+1) ⟨hil,by rw [ta,tb,hE,hx,hy]⟩ (by omega) rfl
   ·have hne:(x==y)=false:=by simpa using hxy
    repeat (first|refine ah ?_|refine ag ?_|refine az ?_|refine ax ?_|refine ak ?_|refine ae ?_|refine aB ?_|refine aA ?_)
    refine bQ bi bi (fun _ _ _=>False) ?_
    repeat (first|refine ah ?_|refine aN ?_|refine bK (by rfl) aT (by (try simp (disch:=omega) only [go_sem,hx,hy,hne]);try rfl) ?_|refine ag ?_|refine ax ?_|refine ak ?_|refine ae ?_|refine Aa (by rfl) (by rfl) (by (try simp only [go_sem,reduceIte,hx,hy,hne]);try rfl) ?_)
    refine ay ?_
    have:a≠b:=fun e=>hxy (by rw [<- hx,<- hy,e])
    simp [dP,this]
  ·obtain rfl:i=a.length:=by omega
   rw [List.take_length,hab,List.take_length] at hE
   repeat (first|refine ah ?_|refine ag ?_|refine az ?_|refine aO ?_|refine au ?_|refine ak ?_|refine ae ?_)
   refine ay ?_
   simp [dP,hE]
 ·have:a≠b:=fun e=>hab (by rw [e])
  repeat (first|refine ah ?_|refine ag ?_|refine aW ?_|refine aF ?_|refine ax ?_|refine ak ?_|refine ae ?_)
  refine ay ?_
  simp [dP,this]
theorem zW (l:List Bool) (i:Nat) (h:i<l.length):l.drop i=l.getD i false::l.drop (i+1):=by
 rw [List.drop_eq_getElem_cons h,List.getD_eq_getElem?_getD,List.getElem?_eq_getElem h];rfl
def lexB:List Bool->List Bool->Bool
 | x::xs,y::ys=>if x=y then lexB xs ys else !x
 | _,_=>false
theorem Du:∀X:List Bool,lexB X X=false
 | []=>rfl
 | x::xs=>by simp only [lexB,if_true,Du xs]
theorem yC:∀ {X Y Z:List Bool},X.length=Y.length->Y.length=Z.length->lexB X Y=true->lexB Y Z=true->lexB X Z=true
 | [],_,_,_,_,h,_=>by simp [lexB] at h
 | _::_,[],_,h,_,_,_=>by simp at h
 | _::_,_::_,[],_,h,_,_=>by simp at h
 | x::xs,y::ys,z::zs,h1,h2,h3,h4=>by
  simp only [lexB] at h3 h4 ⊢
  by_cases e1:x=y
  ·rw [if_pos e1] at h3
   subst e1
   by_cases e2:x=z
   ·rw [if_pos e2] at h4 ⊢
    exact yC (by simpa using h1) (by simpa using h2) h3 h4
   ·rw [if_neg e2] at h4 ⊢;exact h4
  ·rw [if_neg e1] at h3
   by_cases e2:y=z
   ·subst e2;rw [if_neg e1];exact h3
   ·rw [if_neg e2] at h4
    exfalso
    cases x<;>cases y<;>simp_all
def rE (W C:List Int) (n:Nat) (X Y:List Bool):Bool :=
 if wS W X n=wS W Y n then (if wS C X n=wS C Y n then lexB X Y else decide (wS C X n<wS C Y n)) else decide (wS W Y n<wS W X n)
theorem BF (W C:List Int) (n:Nat) (X:List Bool):rE W C n X X=false:=by simp [rE,Du]
theorem zn {W C:List Int} {n:Nat} {X Y Z:List Bool} (h1:X.length=Y.length) (h2:Y.length=Z.length) (a:rE W C n X Y=true) (b:rE W C n Y Z=true):rE W C n X Z=true:=by
 unfold rE at *
 by_cases e1:wS W X n=wS W Y n
 ·rw [if_pos e1] at a
  by_cases e2:wS W Y n=wS W Z n
  ·rw [if_pos e2] at b
   rw [if_pos (e1.trans e2)]
   by_cases f1:wS C X n=wS C Y n
   ·rw [if_pos f1] at a
    by_cases f2:wS C Y n=wS C Z n
    ·rw [if_pos f2] at b
     rw [if_pos (f1.trans f2)]
     exact yC h1 h2 a b
    ·rw [if_neg f2] at b
     rw [if_neg (by omega),f1];exact b
   ·rw [if_neg f1] at a
    by_cases f2:wS C Y n=wS C Z n
    ·rw [if_neg (by omega),<- f2];exact a
    ·rw [if_neg f2] at b
     simp only [decide_eq_true_eq] at a b
     rw [if_neg (by omega)];simp only [decide_eq_true_eq];omega
  ·rw [if_neg e2] at b
   rw [if_neg (by omega),e1];exact b
 ·rw [if_neg e1] at a
  by_cases e2:wS W Y n=wS W Z n
  ·rw [if_neg (by omega),<- e2];exact a
  ·rw [if_neg e2] at b
   simp only [decide_eq_true_eq] at a b
   rw [if_neg (by omega)];simp only [decide_eq_true_eq];omega
structure Se where
 steps:Int
 best:List Bool
 num:Int
 den:Int
 value:Int
 set:List Bool
 flow:List Int
def pW (W C:List Int) (nd us:List (List Nat)) (B:Int) (s:Se):List HV:=[I W,I C,Gs (nd.map nl),.int .i64 B,.int .i64 s.steps,Bl s.best,.int .i64 s.num,.int .i64 s.den,.int .i64 s.value,Bl s.set,I s.flow,Gs (us.map nl)]
theorem Pb.wok {W C:List Int} {nd:List (List Nat)} {B:Int} (h:Pb W C nd B):WOK W:=fun i=>by have:=h.w i;omega
theorem Pb.cok {W C:List Int} {nd:List (List Nat)} {B:Int} (h:Pb W C nd B):WOK C:=fun i=>by have:=h.c i;omega
def Ik (n:Nat):FuncId->List HV->HV->Prop:=fun _ xs r=>∃L X,xs=[.sl n (HL.ints L),.sl n (HL.bools X)]/\r=.int .i64 (wS L X n)
theorem DN:∀ {a b:List Int},HL.ints a=HL.ints b->a=b
 | [],[],_=>rfl
 | [],_::_,h=>by simp [HL.ints] at h
 | _::_,[],h=>by simp [HL.ints] at h
 | x::a,y::b,h=>by
  simp only [HL.ints,List.map_cons,List.cons.injEq,HV.int.injEq,true_and] at h
  rw [h.1,DN h.2]
theorem zY:∀ {a b:List Bool},HL.bools a=HL.bools b->a=b
 | [],[],_=>rfl
 | [],_::_,h=>by simp [HL.bools] at h
 | _::_,[],h=>by simp [HL.bools] at h
 | x::a,y::b,h=>by
  simp only [HL.bools,List.map_cons,List.cons.injEq,HV.bool.injEq] at h
  rw [h.1,zY h.2]
theorem gz {n:Nat} {f:FuncId} {L:List Int} {X:List Bool} {r:HV} (h:Ik n f [.sl n (HL.ints L),.sl n (HL.bools X)] r):r=.int .i64 (wS L X n):=by
 obtain ⟨L',X',e,rfl⟩:=h
 simp only [List.cons.injEq,HV.sl.injEq,true_and,and_true] at e
 rw [DN e.1,zY e.2]
set_option maxHeartbeats 8000000 in
theorem Iy {W C:List Int} {nd:List (List Nat)} {B:Int} (h:Pb W C nd B) (us:List (List Nat)) (s:Se) (set:List Bool) (hb:s.best.length=nd.length) (hs:set.length=nd.length):HT Try.prog 75 [.ptr (pW W C nd us B s) 0,Bl set] (fun r=>r=.bool (rE W C nd.length set s.best)):=by
 have hsz:=h.g.size
 have hlw:=h.lw
 have hlc:=h.lc
 have hnl:(nd.map nl).length=nd.length:=by simp
 have o1:=fD W set h.wok (by omega) (by omega)
 have o2:=fD W s.best h.wok (by omega) (by omega)
 have o3:=fD C set h.cok (by omega) (by omega)
 have o4:=fD C s.best h.cok (by omega) (by omega)
 simp only [I,Bl,hlw,hlc,hb,hs] at o1 o2 o3 o4
 refine HT.of rfl aeQ (Nat.le_of_ble_eq_true rfl) ?_
 unfold c75
 simp only [pW,I,Bl,Gs,aP,Nat.reduceAdd,hlw,hlc,hb,hs,hnl]
 repeat (first|refine ah ?_|refine ag ?_|refine ak ?_|refine ae ?_)
 refine bQ bi bi (Ik nd.length) ?_
 repeat (first|refine ah ?_|refine bK (by rfl) aT mg ?_|refine nK (by rfl) (by rfl) ?_|refine cZ fP rfl ?_)
 refine bG aJ dI (o1.mono fun r h=>⟨W,set,rfl,h⟩) ⟨_,⟨W,set,rfl,rfl⟩,rfl⟩ ?_
 rintro r hr -
 obtain rfl:=gz hr
 refine ⟨dE,_,_,_,_,_,dw,(by decide),aQ,?_⟩
 repeat (first|refine ah ?_|refine bK (by rfl) aT mg ?_|refine nK (by rfl) (by rfl) ?_|refine cZ fP rfl ?_)
 refine bG aJ dI (o2.mono fun r h=>⟨W,s.best,rfl,h⟩) ⟨_,⟨W,s.best,rfl,rfl⟩,rfl⟩ ?_
 rintro r hr -
 obtain rfl:=gz hr
 refine ⟨dE,_,_,_,_,_,dw,(by decide),aQ,?_⟩
 by_cases e1:wS W set nd.length=wS W s.best nd.length
 ·have key:rE W C nd.length set s.best=if wS C set nd.length=wS C s.best nd.length then lexB set s.best else decide (wS C set nd.length<wS C s.best nd.length):=by rw [rE,if_pos e1]
  rw [key]
  repeat (first|refine ah ?_|refine ag ?_|refine aW ?_|refine au ?_|refine ak ?_|refine ae ?_|refine aA ?_)
  refine bQ bi bi (Ik nd.length) ?_
  repeat (first|refine ah ?_|refine bK (by rfl) aT mg ?_|refine nK (by rfl) (by rfl) ?_|refine cZ fP rfl ?_)
  refine bG aJ dI (o3.mono fun r h=>⟨C,set,rfl,h⟩) ⟨_,⟨C,set,rfl,rfl⟩,rfl⟩ ?_
  rintro r hr -
  obtain rfl:=gz hr
  refine ⟨dE,_,_,_,_,_,dw,(by decide),aQ,?_⟩
  repeat (first|refine ah ?_|refine bK (by rfl) aT mg ?_|refine nK (by rfl) (by rfl) ?_|refine cZ fP rfl ?_)
  refine bG aJ dI (o4.mono fun r h=>⟨C,s.best,rfl,h⟩) ⟨_,⟨C,s.best,rfl,rfl⟩,rfl⟩ ?_
  rintro r hr -
  obtain rfl:=gz hr
  refine ⟨dE,_,_,_,_,_,dw,(by decide),aQ,?_⟩
  by_cases e2:wS C set nd.length=wS C s.best nd.length
  ·rw [if_pos e2]
   repeat (first|refine ah ?_|refine ag ?_|refine aW ?_|refine aF ?_|refine au ?_|refine ak ?_|refine ae ?_|refine aB ?_|refine aA ?_)
   refine bD [0,57,58,59] (fun i:Nat=>i<=nd.length/\lexB set s.best=lexB (set.drop i) (s.best.drop i))
    (fun i=>⟨[(0,.ptr [.sl nd.length (HL.ints W),.sl nd.length (HL.ints C),.sl nd.length (aZ (nd.map nl)),.int .i64 B,.int .i64 s.steps,.sl nd.length (HL.bools s.best),.int .i64 s.num,.int .i64 s.den,.int .i64 s.value,.sl s.set.length (HL.bools s.set),.sl s.flow.length (HL.ints s.flow),.sl (us.map nl).length (aZ (us.map nl))] 0),(57,.sl nd.length (HL.bools set)),(58,.int .i64 nd.length),(59,.int .i64 i)],[],0⟩) (fun i=>nd.length - i) 0 ⟨by omega,rfl⟩ rfl ?_
   rintro i ⟨hi,hE⟩
   by_cases hil:i<nd.length
   ·have dx:=zW set i (by omega)
    have dy:=zW s.best i (by omega)
    obtain ⟨x,hx⟩:∃x,set.getD i false=x:=⟨_,rfl⟩
    obtain ⟨y,hy⟩:∃x,s.best.getD i false=x:=⟨_,rfl⟩
    rw [hx] at dx
    rw [hy] at dy
    rw [dx,dy,lexB] at hE
    by_cases hxy:x=y
    ·subst hxy
     rw [if_pos rfl] at hE
     repeat (first|refine ah ?_|refine aN ?_|refine bK (by rfl) aT (by (try simp (disch:=omega) only [go_sem,hx,hy]);try rfl) ?_|refine ag ?_|refine az ?_|refine di (by rfl) (by rfl) (by (try simp (disch:=omega) only [go_sem,Int.reduceAdd,Int.reduceSub,Int.reduceMul,hx,hy]);try rfl) ?_|refine ax ?_|refine au ?_|refine ak ?_|refine ae ?_|refine aB ?_|refine dh ?_|refine aA ?_|refine Aa (by rfl) (by rfl) (by (try simp only [go_sem,reduceIte,hx,hy]);try rfl) ?_|refine nK (by rfl) (by rfl) ?_|refine cZ fP rfl ?_)
     exact bJ [0,57,58,59] (i+1) ⟨hil,hE⟩ (by omega) rfl
    ·have hne:(x==y)=false:=by simpa using hxy
     rw [if_neg hxy] at hE
     rw [hE]
     repeat (first|refine ah ?_|refine aN ?_|refine bK (by rfl) aT (by (try simp (disch:=omega) only [go_sem,hx,hy,hne]);try rfl) ?_|refine ag ?_|refine az ?_|refine ax ?_|refine ak ?_|refine ae ?_|refine aB ?_|refine aA ?_|refine Aa (by rfl) (by rfl) (by (try simp only [go_sem,reduceIte,hx,hy,hne]);try rfl) ?_|refine xG (by rfl) (by (try simp only [go_sem,reduceIte,hx,hy,hne]);try rfl) ?_|refine nK (by rfl) (by rfl) ?_|refine cZ fP rfl ?_)
     refine ay ?_
     rfl
   ·obtain rfl:i=nd.length:=by omega
    rw [List.drop_of_length_le (by omega),List.drop_of_length_le (by omega)] at hE
    rw [hE]
    repeat (first|refine ah ?_|refine ag ?_|refine az ?_|refine aO ?_|refine au ?_|refine ak ?_|refine ae ?_)
    refine ay ?_
    rfl
  ·rw [if_neg e2]
   repeat (first|refine ah ?_|refine ag ?_|refine az ?_|refine aW ?_|refine ax ?_|refine ak ?_|refine ae ?_)
   refine ay ?_
   rfl
 ·have key:rE W C nd.length set s.best=decide (wS W s.best nd.length<wS W set nd.length):=by rw [rE,if_neg e1]
  rw [key]
  repeat (first|refine ah ?_|refine ag ?_|refine aW ?_|refine ax ?_|refine ak ?_|refine ae ?_|refine bn ?_)
  refine ay ?_
  rfl
end Go.Proofs.Yteamkjblpglliaa
end
