import Derived.Test.YtjlidhijnohkbaaGrSrchP
import Derived.Test.YtjlidhijnohkbaaAuP
set_option linter.unusedSimpArgs false
set_option linter.unusedVariables false
namespace Go.Proofs.Ytjlidhijnohkbaa
open Go.BF
def mJ (nd:List (List Nat)) (bad:List Bool) (i s:Nat):Nat :=
 if i<nd.length/\bad.getD i false=false/\s<(nd.getD i []).length/\s<4 then (nd.getD i []).getD s 0 else nd.length
def yB (nd:List (List Nat)) (bad:List Bool) (i:Nat):Bool:=decide (i<nd.length)&&bad.getD i false
def xG (nd:List (List Nat)) (bad:List Bool):Nat->List Nat->List Nat
 | _,[]=>[]
 | v,s::u=>mJ nd bad v s::xG nd bad (mJ nd bad v s) u
structure Up (nd:List (List Nat)):Prop where
 lt:∀i j,j∈nd.getD i []->i<j/\j<nd.length
 few:∀i,(nd.getD i []).length<=4
def NY (g:Nat->Option (List Nat)):List Nat->Nat->Option (List Nat)
 | [],_=>none
 | v::l,s=>match g v with
  | some w=>some (s::w)
  | none=>NY g l (s+1)
def lw (nd:List (List Nat)) (bad:List Bool):Nat->Nat->Option (List Nat)
 | 0,v=>if bad.getD v false=true then some [] else none
 | f+1,v=>if bad.getD v false=true then none else NY (lw nd bad f) (nd.getD v []) 0
section
variable {nd:List (List Nat)} {bad:List Bool} {f v:Nat}
theorem vG {g:Nat->Option (List Nat)}:∀ {l:List Nat} {s:Nat} {x:List Nat},NY g l s=some x->∃e w,e<l.length/\x=(s+e)::w/\g (l.getD e 0)=some w/\∀q,q<e->g (l.getD q 0)=none
 | [],s,x,h=>by cases h
 | v::l,s,x,h=>by
  rw [NY] at h
  cases hg:g v with
  | some w=>rw [hg] at h;cases h;exact ⟨0,w,by simp,rfl,by simpa using hg,fun q hq=>by omega⟩
  | none =>
   rw [hg] at h
   obtain ⟨e,w,h1,h2,h3,h4⟩:=vG h
   refine ⟨e+1,w,by simpa using h1,by rw [h2];congr 1;omega,by simpa using h3,fun q hq=>?_⟩
   cases q with
   | zero=>simpa using hg
   | succ q=>simpa using h4 q (by omega)
theorem FZ {g:Nat->Option (List Nat)}:∀ {l:List Nat} {s:Nat},NY g l s=none->∀q,q<l.length->g (l.getD q 0)=none
 | [],s,_,q,hq=>by simp at hq
 | v::l,s,h,q,hq=>by
  rw [NY] at h
  cases hg:g v with
  | some w=>rw [hg] at h;cases h
  | none =>
   rw [hg] at h
   cases q with
   | zero=>simpa using hg
   | succ q=>simpa using FZ h q (by simpa using hq)
theorem H7 (up:Up nd) {s:Nat} (hv:v<nd.length) (hb:bad.getD v false=false) (hs:s<(nd.getD v []).length):mJ nd bad v s=(nd.getD v []).getD s 0/\v<mJ nd bad v s/\mJ nd bad v s<nd.length:=by
 have h4:=up.few v
 have e:mJ nd bad v s=(nd.getD v []).getD s 0:=by unfold mJ;rw [if_pos ⟨hv,hb,hs,by omega⟩]
 have:=up.lt v _ (getD_mem (nd.getD v []) s 0 hs)
 rw [e]
 exact ⟨rfl,this⟩
theorem Nz {s:Nat} (h:¬ (v<nd.length/\bad.getD v false=false/\s<(nd.getD v []).length/\s<4)):mJ nd bad v s=nd.length:=by unfold mJ;rw [if_neg h]
theorem lm (δ:Nat->Nat->Nat) (k s:Nat) (u:List Nat):run δ k (s::u)=run δ (δ k s) u:=rfl
theorem IW:∀ (u:List Nat),run (mJ nd bad) nd.length u=nd.length
 | []=>rfl
 | s::u=>by rw [lm,Nz (by omega)];exact IW u
theorem Ot:yB nd bad nd.length=false:=by simp [yB]
theorem vU (up:Up nd) {s:Nat} {u:List Nat} (hv:v<nd.length) (h:yB nd bad (run (mJ nd bad) v (s::u))=true):bad.getD v false=false/\s<(nd.getD v []).length/\mJ nd bad v s=(nd.getD v []).getD s 0/\v<mJ nd bad v s/\mJ nd bad v s<nd.length:=by
 apply Classical.byContradiction
 intro hn
 have hno:¬ (v<nd.length/\bad.getD v false=false/\s<(nd.getD v []).length/\s<4):=fun h1=>hn ⟨h1.2.1,h1.2.2.1,H7 up hv h1.2.1 h1.2.2.1⟩
 rw [lm,Nz hno,IW,Ot] at h
 cases h
theorem yG (up:Up nd):∀ {u:List Nat} {v:Nat},v<nd.length->yB nd bad (run (mJ nd bad) v u)=true->v+u.length<nd.length
 | [],v,hv,_=>by simpa using hv
 | s::u,v,hv,h=>by
  obtain ⟨_,_,_,h1,h2⟩:=vU up hv h
  have:=yG up h2 h
  simp only [List.length_cons];omega
theorem Ir (up:Up nd):∀ {f v:Nat} {u:List Nat},v<nd.length->lw nd bad f v=none->u.length=f->¬ yB nd bad (run (mJ nd bad) v u)=true:=by
 intro f
 induction f with
 | zero =>
  intro v u hv h hu hg
  obtain rfl:=List.eq_nil_of_length_eq_zero hu
  rw [lw] at h
  split at h
  ·cases h
  ·rename_i hb
   simp only [yB,run,List.foldl_nil,Bool.and_eq_true] at hg
   exact hb hg.2
 | succ f ih =>
  intro v u hv h hu hg
  cases u with
  | nil=>simp at hu
  | cons s u =>
   obtain ⟨b1,b2,b3,b4,b5⟩:=vU up hv hg
   rw [lw,if_neg (by rw [b1];simp)] at h
   have:=FZ h s b2
   rw [<- b3] at this
   exact ih b5 this (by simpa using hu) hg
theorem Eb (up:Up nd):∀ {f v:Nat} {w:List Nat},v<nd.length->lw nd bad f v=some w->w.length=f/\(∀t∈w,t<4)/\yB nd bad (run (mJ nd bad) v w)=true/\∀u:List Nat,u.length=f->yB nd bad (run (mJ nd bad) v u)=true->w=u\/lt w u:=by
 intro f
 induction f with
 | zero =>
  intro v w hv h
  rw [lw] at h
  split at h
  ·rename_i hb
   cases h
   refine ⟨rfl,by simp,by simp only [yB,run,List.foldl_nil,Bool.and_eq_true];exact ⟨decide_eq_true hv,hb⟩,fun u hu _=>.inl (List.eq_nil_of_length_eq_zero hu).symm⟩
  ·cases h
 | succ f ih =>
  intro v w hv h
  rw [lw] at h
  split at h
  ·cases h
  ·rename_i hb
   have hb':bad.getD v false=false:=by simpa using hb
   obtain ⟨e,w',h1,rfl,h3,h4⟩:=vG h
   obtain ⟨g1,g2,g3⟩:=H7 up hv hb' h1
   rw [<- g1] at h3
   obtain ⟨a1,a2,a3,a4⟩:=ih g3 h3
   have h5:=up.few v
   simp only [Nat.zero_add]
   refine ⟨by simp [a1],fun t ht=>?_,a3,fun u hu hgu=>?_⟩
   ·rcases List.mem_cons.1 ht with rfl|ht
    ·omega
    ·exact a2 t ht
   ·cases u with
    | nil=>simp at hu
    | cons s u =>
     obtain ⟨b1,b2,b3,b4,b5⟩:=vU up hv hgu
     rcases Nat.lt_trichotomy s e with hs|hs|hs
     ·exfalso
      have h6:=h4 s hs
      rw [<- b3] at h6
      exact Ir up b5 h6 (by simpa using hu) hgu
     ·subst hs
      rcases a4 u (by simpa using hu) hgu with rfl|h6
      ·exact .inl rfl
      ·exact .inr (.inr ⟨rfl,h6⟩)
     ·exact .inr (.inl hs)
theorem Pg:∀ {u v:List Nat},lt u v->¬ lt v u:=fun h g=>(h.trans g).irrefl
theorem Least.lw (up:Up nd) {w:List Nat} (h0:0<nd.length) (h:Least (mJ nd bad) 4 0 (yB nd bad) w):lw nd bad w.length 0=some w/\(∀q,q<w.length->Go.Proofs.Ytjlidhijnohkbaa.lw nd bad q 0=none)/\w.length<nd.length:=by
 obtain ⟨h1,h2,h3⟩:=h
 refine ⟨?_,fun q hq=>?_,by have:=yG up h0 h2;omega⟩
 ·cases e:Go.Proofs.Ytjlidhijnohkbaa.lw nd bad w.length 0 with
  | none=>exact absurd h2 (Ir up h0 e rfl)
  | some x =>
   obtain ⟨a1,a2,a3,a4⟩:=Eb up h0 e
   rcases h3 x a2 a3 with rfl|h4
   ·rfl
   ·rcases h4 with h4|⟨_,h4⟩
    ·omega
    ·rcases a4 w rfl h2 with rfl|h5
     ·rfl
     ·exact absurd h4 (Pg h5)
 ·cases e:Go.Proofs.Ytjlidhijnohkbaa.lw nd bad q 0 with
  | none=>rfl
  | some x =>
   obtain ⟨a1,a2,a3,a4⟩:=Eb up h0 e
   rcases h3 x a2 a3 with rfl|h4
   ·omega
   ·rcases h4 with h4|⟨h4,_⟩<;>omega
theorem None.lw (up:Up nd) (h0:0<nd.length) (h:None (mJ nd bad) 4 0 (yB nd bad)) (q:Nat):lw nd bad q 0=none:=by
 cases e:Go.Proofs.Ytjlidhijnohkbaa.lw nd bad q 0 with
 | none=>rfl
 | some x =>
  obtain ⟨a1,a2,a3,a4⟩:=Eb up h0 e
  have:=h x a2
  rw [this] at a3;cases a3
theorem xx {g:Nat->Option (List Nat)} {h:Nat->List Nat} {nn:Nat->List Nat->List Nat} {p:List Nat} (hh:∀v w,g v=some w->h v=p++v::nn v w) (hn:∀v,g v=none->h v=[]):∀ (l:List Nat) (s:Nat),gK h l=match NY g l s with
  | none=>[]
  | some x=>p++l.getD (x.headD 0 - s) 0::nn (l.getD (x.headD 0 - s) 0) x.tail
 | [],s=>rfl
 | v::l,s=>by
  rw [gK,NY]
  cases hg:g v with
  | some w =>
   have e:=hh v w hg
   rw [if_neg (by rw [e];simp),e]
   simp
  | none =>
   rw [if_pos (hn v hg),xx hh hn l (s+1)]
   cases hw:NY g l (s+1) with
   | none=>rfl
   | some x =>
    obtain ⟨e,w,h1,rfl,h3,h4⟩:=vG hw
    simp only [List.headD_cons,List.tail_cons]
    rw [show s+1+e - (s+1)=e by omega,show s+1+e - s=e+1 by omega,List.getD_cons_succ]
theorem yU (p:List Nat) (v:Nat):iC (p++[v])=v:=by simp [iC]
theorem OQ (up:Up nd):∀ (f:Nat) (p:List Nat) (v:Nat),v<nd.length->(∀x∈p,x<v)->lY nd bad (p.length+1+f) f (p++[v])=match lw nd bad f v with
  | none=>[]
  | some w=>p++v::xG nd bad v w:=by
 intro f
 induction f with
 | zero =>
  intro p v hv hp
  have hno:v ∉ (p++[v]).take ((p++[v]).length - 1):=fun h=>by simp at h;have:=hp v h;omega
  rw [lY,lw,yU]
  by_cases hb:bad.getD v false=true
  ·rw [if_pos ⟨.inl hb,by simp⟩,if_pos hb];simp [xG]
  ·rw [if_neg (fun h=>h.1.elim hb hno),if_neg hb]
 | succ f ih =>
  intro p v hv hp
  have hno:v ∉ (p++[v]).take ((p++[v]).length - 1):=fun h=>by simp at h;have:=hp v h;omega
  rw [lY,lw,yU]
  by_cases hb:bad.getD v false=true
  ·rw [if_pos (.inl hb),if_pos hb,if_neg (by simp)]
  ·rw [if_neg (fun h=>h.elim hb hno),if_neg hb]
   have hb':bad.getD v false=false:=by simpa using hb
   have hx:∀x∈nd.getD v [],lY nd bad (p.length+1+(f+1)) f (p++[v]++[x])=match lw nd bad f x with|none=>[]|some w=>(p++[v])++x::xG nd bad x w:=fun x hx=>by
    obtain ⟨h1,h2⟩:=up.lt v x hx
    have:=ih (p++[v]) x h2 (fun y hy=>by
     rcases List.mem_append.1 hy with hy|hy
     ·have:=hp y hy;omega
     ·rw [List.mem_singleton.1 hy];exact h1)
    rw [<- this]
    congr 1
    simp;omega
   have hc:gK (fun v_1=>lY nd bad (p.length+1+(f+1)) f (p++[v]++[v_1])) (nd.getD v [])=gK (fun x=>match lw nd bad f x with|none=>[]|some w=>(p++[v])++x::xG nd bad x w) (nd.getD v []):=by
    have:∀ (l:List Nat),(∀x∈l,x∈nd.getD v [])->gK (fun v_1=>lY nd bad (p.length+1+(f+1)) f (p++[v]++[v_1])) l=gK (fun x=>match lw nd bad f x with|none=>[]|some w=>(p++[v])++x::xG nd bad x w) l:=by
     intro l
     induction l with
     | nil=>intro _;rfl
     | cons y l ihl =>
      intro hl
      rw [gK,gK,ihl fun x hx=>hl x (by simp [hx])]
      simp only [hx y (hl y (by simp))]
    exact this _ fun x hx=>hx
   rw [hc,xx (g:=lw nd bad f) (nn:=xG nd bad) (p:=p++[v]) (fun x w h=>by simp only [h]) (fun x h=>by simp only [h]) (nd.getD v []) 0]
   cases hw:NY (lw nd bad f) (nd.getD v []) 0 with
   | none=>rfl
   | some x =>
    obtain ⟨e,w,h1,rfl,h3,h4⟩:=vG hw
    obtain ⟨g1,g2,g3⟩:=H7 up hv hb' h1
    simp only [List.headD_cons,List.tail_cons,Nat.zero_add,Nat.sub_zero]
    rw [<- g1]
    simp [xG]
end
end Go.Proofs.Ytjlidhijnohkbaa
