import Derived.Test.YtlbdmpjnmfmnfaaFu1
set_option linter.unusedSimpArgs false
set_option linter.unusedVariables false
namespace Go.FS
open Go.HL
def iV:List Nat->Nat
 | []=>0
 | a::l=>a+iV l
theorem lw:∀ (l m:List Nat),iV (l++m)=iV l+iV m
 | [],m=>by simp [iV]
 | a::l,m=>by simp only [List.cons_append,iV,lw l m];omega
theorem yG {α:Type} [DecidableEq α] (f:α->Nat):∀ {l:List α} {a:α},a∈l->iV (l.map f)=f a+iV ((l.erase a).map f)
 | b::l,a,h=>by
  by_cases e:b=a
  ·subst e;simp [iV]
  ·have hm:a∈l:=by
    rcases List.mem_cons.1 h with h|h
    ·exact absurd h.symm e
    ·exact h
   have:=yG f hm
   rw [List.erase_cons_tail (by simpa using e)]
   simp only [List.map_cons,iV,this];omega
theorem CP {α:Type} [DecidableEq α] (f:α->Nat):∀ {l m:List α},l.Nodup->(∀x∈l,x∈m)->iV (l.map f)<=iV (m.map f)
 | [],_,_,_=>Nat.zero_le _
 | a::l,m,hn,hs=>by
  have ha:=hs a (by simp)
  rw [yG f ha]
  have:=CP f (l:=l) (m:=m.erase a) (List.nodup_cons.1 hn).2 (fun x hx=>by
   have hne:x≠a:=fun e=>(List.nodup_cons.1 hn).1 (e▸hx)
   exact (List.mem_erase_of_ne hne).2 (hs x (by simp [hx])))
  simp only [List.map_cons,iV];omega
theorem Gu {α:Type} {f g:α->Nat} (h:∀x,f x<=g x):∀l:List α,iV (l.map f)<=iV (l.map g)
 | []=>Nat.le_refl _
 | a::l=>by have:=h a;have:=Gu h l;simp only [List.map_cons,iV];omega
def aN (l:List A) (p:Nat):Nat:=(outA (p:Int) l).length
theorem Eh (n:Nat):∀l:List A,iV ((List.range n).map (aN l))<=l.length
 | []=>by
  have:∀r:List Nat,iV (r.map (aN []))=0:=fun r=>by
   induction r with
   | nil=>rfl
   | cons p r ih=>simp only [List.map_cons,iV,ih];rfl
  rw [this];exact Nat.zero_le _
 | a::l=>by
  have ih:=Eh n l
  have key:∀m,iV ((List.range m).map (aN (a::l)))<=iV ((List.range m).map (aN l))+(if 0<=a.f/\a.f<m then 1 else 0):=fun m=>by
   induction m with
   | zero=>simp [iV]
   | succ m ihm =>
    rw [List.range_succ,List.map_append,List.map_append,lw,lw]
    simp only [List.map_cons,List.map_nil,iV]
    have e:aN (a::l) m=aN l m+(if a.f=(m:Int) then 1 else 0):=by
     unfold aN outA
     rw [List.filter_cons]
     by_cases h:a.f=(m:Int)
     ·rw [if_pos (by simpa using h),if_pos h];simp
     ·rw [if_neg (by simpa using h),if_neg h];simp
    rw [e]
    have:(if a.f=(m:Int) then 1 else 0)+(if 0<=a.f/\a.f<m then 1 else 0)<=(if 0<=a.f/\a.f<((m+1:Nat):Int) then 1 else 0):=by
     by_cases h1:a.f=(m:Int)
     ·rw [if_pos h1,if_neg (by omega),if_pos (by omega)];omega
     ·by_cases h2:0<=a.f/\a.f<m
      ·rw [if_neg h1,if_pos h2,if_pos (by omega)];omega
      ·rw [if_neg h1,if_neg h2];omega
    omega
  have:=key n
  have h1:(if 0<=a.f/\a.f<(n:Int) then 1 else 0)<=1:=by split<;>omega
  simp only [List.length_cons];omega
def pN (al bl:List A) (v:Nd):Nat:=(outA v.2 bl).length+((outA v.1 al).length+(outA v.1 al).length*(outA v.2 bl).length)
theorem Jb (al bl:List A) (v:Nd):(gB al bl v).length<=pN al bl v:=by
 unfold gB MG pN
 have h1:=Bo (two:=outA v.2 bl) (v:=v)
 have h2:=AO (one:=outA v.1 al) (two:=outA v.2 bl) (v:=v)
 rw [List.length_append]
 rw [Nat.mul_add,Nat.mul_one] at h2
 omega
def grid (n m:Nat):List Nd:=(List.range n).flatMap fun p:Nat=>(List.range m).map fun q:Nat=>((p:Int),(q:Int))
theorem CW {n m:Nat} {v:Nd} (h:JH n m v):v∈grid n m:=by
 obtain ⟨h1,h2,h3,h4⟩:=h
 unfold grid
 simp only [List.mem_flatMap,List.mem_map,List.mem_range]
 exact ⟨v.1.toNat,by omega,v.2.toNat,by omega,by ext<;>simp<;>omega⟩
theorem KN (n m:Nat):(grid n m).length=n*m:=by
 unfold grid
 induction n with
 | zero=>simp
 | succ n ih=>rw [List.range_succ,List.flatMap_append,List.length_append,ih];simp [Nat.add_mul]
theorem Om (al bl:List A) (p m:Nat):iV (((List.range m).map fun q:Nat=>((p:Int),(q:Int))).map (pN al bl))=iV ((List.range m).map (aN bl))+(m*aN al p+aN al p*iV ((List.range m).map (aN bl))):=by
 induction m with
 | zero=>simp [iV]
 | succ m ih =>
  rw [List.range_succ,List.map_append,List.map_append,List.map_append,lw,lw,ih]
  simp only [List.map_cons,List.map_nil,iV]
  have:pN al bl ((p:Int),(m:Int))=aN bl m+(aN al p+aN al p*aN bl m):=rfl
  rw [this,Nat.mul_add,Nat.add_mul,Nat.mul_add]
  omega
theorem MQ (al bl:List A) (n m:Nat):iV ((grid n m).map (pN al bl))=n*iV ((List.range m).map (aN bl))+(m*iV ((List.range n).map (aN al))+iV ((List.range n).map (aN al))*iV ((List.range m).map (aN bl))):=by
 unfold grid
 induction n with
 | zero=>simp [iV]
 | succ n ih =>
  rw [List.range_succ,List.flatMap_append,List.map_append,lw,ih,List.map_append,lw]
  simp only [List.flatMap_cons,List.flatMap_nil,List.append_nil,List.map_cons,List.map_nil,iV]
  simp only [Om,Nat.add_zero,Nat.mul_add,Nat.add_mul,Nat.one_mul]
  omega
def NZ (al bl:List A) (n m:Nat):Nat:=n*bl.length+(m*al.length+al.length*bl.length)
theorem OG (al bl:List A) (n m:Nat):iV ((grid n m).map (pN al bl))<=NZ al bl n m:=by
 rw [MQ]
 have h1:=Eh n al
 have h2:=Eh m bl
 have h3:=Nat.mul_le_mul (Nat.le_refl n) h2
 have h4:=Nat.mul_le_mul (Nat.le_refl m) h1
 have h5:=Nat.mul_le_mul h1 h2
 unfold NZ;omega
structure CB (al bl:List A) (n m i:Nat) (st:CS):Prop where
 nd:st.1.Nodup
 in_:∀v∈st.1,JH n m v
 le:i<=st.1.length
 ln:st.2.length=iV ((st.1.take i).map fun v=>(gB al bl v).length)
section
variable {al bl:List A} {n m:Nat} (ha:∀a∈al,0<=a.t/\a.t<n) (hb:∀b∈bl,0<=b.t/\b.t<m)
theorem CB.start (hn:0<n) (hm:0<m):CB al bl n m 0 ([(0,0)],[]):=⟨by simp,fun v hv=>by simp only [List.mem_singleton] at hv;subst hv;exact ⟨by simp,by simp only;omega,by simp,by simp only;omega⟩,by simp,rfl⟩
include ha hb in
theorem CB.step {i:Nat} {st:CS} (h:CB al bl n m i st) (hi:i<st.1.length):CB al bl n m (i+1) (Bd al bl i st):=by
 obtain ⟨y,hy⟩:=oI (i:=i) (l:=gB al bl (st.1.getD i default)) (st:=st)
 have hl:=mY (i:=i) (l:=gB al bl (st.1.getD i default)) (st:=st)
 have hin:JH n m (st.1.getD i default):=h.in_ _ (by rw [List.getD_eq_getElem?_getD,List.getElem?_eq_getElem hi];exact List.getElem_mem hi)
 have e:Bd al bl i st=gG i st (gB al bl (st.1.getD i default)):=rfl
 rw [e]
 refine ⟨yg h.nd,AL h.in_ (xx ha hb hin),by rw [hy,List.length_append];omega,?_⟩
 rw [hl.1,h.ln,hy,List.take_append_of_le_length (by omega)]
 have:st.1.take (i+1)=st.1.take i++[st.1.getD i default]:=by rw [List.take_add_one];simp [hi]
 rw [this,List.map_append,lw]
 simp [iV]
theorem CB.bound {i:Nat} {st:CS} (h:CB al bl n m i st):st.1.length<=n*m/\st.2.length<=NZ al bl n m:=by
 refine ⟨by rw [<- KN];exact fB h.nd fun v hv=>CW (h.in_ v hv),?_⟩
 rw [h.ln]
 have h1:=Gu (f:=fun v=>(gB al bl v).length) (g:=pN al bl) (Jb al bl) (st.1.take i)
 have h2:=CP (pN al bl) (l:=st.1.take i) (m:=grid n m) (h.nd.sublist (List.take_sublist _ _)) fun v hv=>CW (h.in_ v (List.mem_of_mem_take hv))
 have h3:=OG al bl n m
 omega
include ha hb in
theorem vN (hp:n*m<=2048) (hc:NZ al bl n m<=8192):∀ {f i:Nat} {st:CS},CB al bl n m i st->2048<f+i->∃s2 i',lH al bl f i st=some s2/\CB al bl n m i' s2
 | 0,i,st,h,hf=>by have:=h.bound;have:=h.le;omega
 | f+1,i,st,h,hf=>by
  unfold lH
  by_cases hi:i<st.1.length
  ·have hn:=h.step ha hb hi
   have hbd:=hn.bound
   have hw:within (Bd al bl i st)=true:=by simp only [within,decide_eq_true_eq];omega
   rw [if_pos hi,if_pos hw]
   exact vN hp hc hn (by omega)
  ·rw [if_neg hi];exact ⟨st,i,rfl,h⟩
include ha hb in
theorem Ff (hn:0<n) (hm:0<m) (hp:n*m<=2048) (hc:NZ al bl n m<=8192):∃st,oG al bl=some st/\st.1.length<=n*m/\st.2.length<=NZ al bl n m/\∀v∈st.1,JH n m v:=by
 obtain ⟨s2,i',h1,h2⟩:=vN ha hb hp hc (CB.start hn hm) (f:=2100) (by omega)
 exact ⟨s2,h1,h2.bound.1,h2.bound.2,h2.in_⟩
end
theorem zi:∀ {u v w:List Int},JC u v=true->JC v w=true->JC u w=true
 | x::u,y::v,z::w,h1,h2=>by
  unfold JC at h1 h2 ⊢
  by_cases e1:x=y
  ·subst e1
   by_cases e2:x=z
   ·subst e2
    rw [if_pos rfl] at h1 h2 ⊢
    exact zi h1 h2
   ·rw [if_neg e2] at h2 ⊢;exact h2
  ·rw [if_neg e1] at h1
   by_cases e2:y=z
   ·subst e2;rw [if_neg e1];exact h1
   ·rw [if_neg e2] at h2
    simp only [decide_eq_true_eq] at h1 h2
    rw [if_neg (by omega)]
    simp only [decide_eq_true_eq];omega
 | [],_,_,h1,_=>by simp [JC] at h1
 | _::_,[],_,h1,_=>by simp [JC] at h1
 | _::_,_::_,[],_,h2=>by simp [JC] at h2
theorem GX:∀ {u v:List Int},u.length=v.length->u≠v->JC u v=false->JC v u=true
 | [],[],_,h,_=>absurd rfl h
 | x::u,y::v,hl,hne,h=>by
  unfold JC at h ⊢
  by_cases e:x=y
  ·subst e
   rw [if_pos rfl] at h ⊢
   exact GX (by simpa using hl) (fun e=>hne (by rw [e])) h
  ·rw [if_neg e] at h
   rw [if_neg (fun e2=>e e2.symm)]
   simp only [decide_eq_false_iff_not] at h
   simp only [decide_eq_true_eq];omega
theorem I8 {u v w:List Int} (h1:O5 u v=true) (h2:O5 v w=true):O5 u w=true:=by
 unfold O5 at h1 h2 ⊢
 by_cases e1:u.length=v.length
 ·rw [if_pos e1] at h1
  by_cases e2:v.length=w.length
  ·rw [if_pos e2] at h2;rw [if_pos (e1.trans e2)];exact zi h1 h2
  ·rw [if_neg e2] at h2;rw [if_neg (by omega)];simp only [decide_eq_true_eq] at h2 ⊢;omega
 ·rw [if_neg e1] at h1
  simp only [decide_eq_true_eq] at h1
  by_cases e2:v.length=w.length
  ·rw [if_neg (by omega)];simp only [decide_eq_true_eq];omega
  ·rw [if_neg e2] at h2;simp only [decide_eq_true_eq] at h2;rw [if_neg (by omega)];simp only [decide_eq_true_eq];omega
theorem Px {u v:List Int} (hne:u≠v) (h:O5 u v=false):O5 v u=true:=by
 unfold O5 at h ⊢
 by_cases e:u.length=v.length
 ·rw [if_pos e] at h;rw [if_pos e.symm];exact GX e hne h
 ·rw [if_neg e] at h;rw [if_neg (fun e2=>e e2.symm)]
  simp only [decide_eq_false_iff_not] at h;simp only [decide_eq_true_eq];omega
abbrev Ze (l:List (List Int)):Prop:=l.Pairwise fun u v=>O5 u v=true
theorem Ea {w:List Int}:∀ {l:List (List Int)},Ze l->Ze (AY w l)
 | [],_=>by simp [AY]
 | x::l,h=>by
  have h1:=List.pairwise_cons.1 h
  unfold AY
  split
  ·exact h
  ·rename_i hne
   split
   ·rename_i hb
    refine List.pairwise_cons.2 ⟨fun y hy=>?_,h⟩
    rcases List.mem_cons.1 hy with rfl|hy
    ·exact hb
    ·exact I8 hb (h1.1 y hy)
   ·rename_i hb
    refine List.pairwise_cons.2 ⟨fun y hy=>?_,Ea h1.2⟩
    rcases mem_insW.1 hy with rfl|hy
    ·exact Px (fun e=>hne e.symm) (by simpa using hb)
    ·exact h1.1 y hy
section
variable {fin:List Bool} {al:List A} {w:List Int}
end
end Go.FS
