import Derived.Test.YtlbdmpjnmfmnfaaFu2
import Derived.Test.YtlbdmpjnmfmnfaaFu1
set_option linter.unusedSimpArgs false
set_option linter.unusedVariables false
namespace Go.FS
open Go.HL
def jA:List Nat->Nat
 | []=>0
 | a::l=>a+jA l
theorem mg:∀ (l m:List Nat),jA (l++m)=jA l+jA m
 | [],m=>by simp [jA]
 | a::l,m=>by simp only [List.cons_append,jA,mg l m];omega
theorem zn {α:Type} [DecidableEq α] (f:α->Nat):∀ {l:List α} {a:α},a∈l->jA (l.map f)=f a+jA ((l.erase a).map f)
 | b::l,a,h=>by
  by_cases e:b=a
  ·subst e;simp [jA]
  ·have hm:a∈l:=by
    rcases List.mem_cons.1 h with h|h
    ·exact absurd h.symm e
    ·exact h
   have:=zn f hm
   rw [List.erase_cons_tail (by simpa using e)]
   simp only [List.map_cons,jA,this];omega
theorem Ff {α:Type} [DecidableEq α] (f:α->Nat):∀ {l m:List α},l.Nodup->(∀x∈l,x∈m)->jA (l.map f)<=jA (m.map f)
 | [],_,_,_=>Nat.zero_le _
 | a::l,m,hn,hs=>by
  have ha:=hs a (by simp)
  rw [zn f ha]
  have:=Ff f (l:=l) (m:=m.erase a) (List.nodup_cons.1 hn).2 (fun x hx=>by
   have hne:x≠a:=fun e=>(List.nodup_cons.1 hn).1 (e▸hx)
   exact (List.mem_erase_of_ne hne).2 (hs x (by simp [hx])))
  simp only [List.map_cons,jA];omega
theorem Jq {α:Type} {f g:α->Nat} (h:∀x,f x<=g x):∀l:List α,jA (l.map f)<=jA (l.map g)
 | []=>Nat.le_refl _
 | a::l=>by have:=h a;have:=Jq h l;simp only [List.map_cons,jA];omega
def aN (l:List A) (p:Nat):Nat:=(outA (p:Int) l).length
theorem Ij (n:Nat):∀l:List A,jA ((List.range n).map (aN l))<=l.length
 | []=>by
  have:∀r:List Nat,jA (r.map (aN []))=0:=fun r=>by
   induction r with
   | nil=>rfl
   | cons p r ih=>simp only [List.map_cons,jA,ih];rfl
  rw [this];exact Nat.zero_le _
 | a::l=>by
  have ih:=Ij n l
  have key:∀m,jA ((List.range m).map (aN (a::l)))<=jA ((List.range m).map (aN l))+(if 0<=a.f/\a.f<m then 1 else 0):=fun m=>by
   induction m with
   | zero=>simp [jA]
   | succ m ihm =>
    rw [List.range_succ,List.map_append,List.map_append,mg,mg]
    simp only [List.map_cons,List.map_nil,jA]
    have e:aN (a::l) m=aN l m+(if a.f=(m:Int) then 1 else 0):=by
     unfold aN outA
     rw [List.filter_cons]
     by_cases h:a.f=(m:Int)
     ·rw [if_pos (by simpa using h),if_pos h];simp
     ·rw [if_neg (by simpa using h),if_neg h];simp
    rw [e]
    have:(if a.f=(m:Int) then 1 else 0)+(if 0<=a.f/\a.f<m then 1 else 0)<=(if 0<=a.f/\a.f<((m+1:Nat):Int) then 1 else 0):=by
     by_cases h1:a.f=(m:Int)
     ·rw [if_pos h1,if_neg (by omega),if_pos (by omega)];omega
     ·by_cases h2:0<=a.f/\a.f<m
      ·rw [if_neg h1,if_pos h2,if_pos (by omega)];omega
      ·rw [if_neg h1,if_neg h2];omega
    omega
  have:=key n
  have h1:(if 0<=a.f/\a.f<(n:Int) then 1 else 0)<=1:=by split<;>omega
  simp only [List.length_cons];omega
def pN (al bl:List A) (v:Nd):Nat:=(outA v.2 bl).length+((outA v.1 al).length+(outA v.1 al).length*(outA v.2 bl).length)
theorem MP (al bl:List A) (v:Nd):(iH al bl v).length<=pN al bl v:=by
 unfold iH OV pN
 have h1:=BQ (two:=outA v.2 bl) (v:=v)
 have h2:=BD (one:=outA v.1 al) (two:=outA v.2 bl) (v:=v)
 rw [List.length_append]
 rw [Nat.mul_add,Nat.mul_one] at h2
 omega
def grid (n m:Nat):List Nd:=(List.range n).flatMap fun p:Nat=>(List.range m).map fun q:Nat=>((p:Int),(q:Int))
theorem EG {n m:Nat} {v:Nd} (h:Qh n m v):v∈grid n m:=by
 obtain ⟨h1,h2,h3,h4⟩:=h
 unfold grid
 simp only [List.mem_flatMap,List.mem_map,List.mem_range]
 exact ⟨v.1.toNat,by omega,v.2.toNat,by omega,by ext<;>simp<;>omega⟩
theorem PU (n m:Nat):(grid n m).length=n*m:=by
 unfold grid
 induction n with
 | zero=>simp
 | succ n ih=>rw [List.range_succ,List.flatMap_append,List.length_append,ih];simp [Nat.add_mul]
theorem QT (al bl:List A) (p m:Nat):jA (((List.range m).map fun q:Nat=>((p:Int),(q:Int))).map (pN al bl))=jA ((List.range m).map (aN bl))+(m*aN al p+aN al p*jA ((List.range m).map (aN bl))):=by
 induction m with
 | zero=>simp [jA]
 | succ m ih =>
  rw [List.range_succ,List.map_append,List.map_append,List.map_append,mg,mg,ih]
  simp only [List.map_cons,List.map_nil,jA]
  have:pN al bl ((p:Int),(m:Int))=aN bl m+(aN al p+aN al p*aN bl m):=rfl
  rw [this,Nat.mul_add,Nat.add_mul,Nat.mul_add]
  omega
theorem P7 (al bl:List A) (n m:Nat):jA ((grid n m).map (pN al bl))=n*jA ((List.range m).map (aN bl))+(m*jA ((List.range n).map (aN al))+jA ((List.range n).map (aN al))*jA ((List.range m).map (aN bl))):=by
 unfold grid
 induction n with
 | zero=>simp [jA]
 | succ n ih =>
  rw [List.range_succ,List.flatMap_append,List.map_append,mg,ih,List.map_append,mg]
  simp only [List.flatMap_cons,List.flatMap_nil,List.append_nil,List.map_cons,List.map_nil,jA]
  simp only [QT,Nat.add_zero,Nat.mul_add,Nat.add_mul,Nat.one_mul]
  omega
def Qz (al bl:List A) (n m:Nat):Nat:=n*bl.length+(m*al.length+al.length*bl.length)
theorem Rx (al bl:List A) (n m:Nat):jA ((grid n m).map (pN al bl))<=Qz al bl n m:=by
 rw [P7]
 have h1:=Ij n al
 have h2:=Ij m bl
 have h3:=Nat.mul_le_mul (Nat.le_refl n) h2
 have h4:=Nat.mul_le_mul (Nat.le_refl m) h1
 have h5:=Nat.mul_le_mul h1 h2
 unfold Qz;omega
structure CB (al bl:List A) (n m i:Nat) (st:CS):Prop where
 nd:st.1.Nodup
 in_:∀v∈st.1,Qh n m v
 le:i<=st.1.length
 ln:st.2.length=jA ((st.1.take i).map fun v=>(iH al bl v).length)
section
variable {al bl:List A} {n m:Nat} (ha:∀a∈al,0<=a.t/\a.t<n) (hb:∀b∈bl,0<=b.t/\b.t<m)
theorem CB.start (hn:0<n) (hm:0<m):CB al bl n m 0 ([(0,0)],[]):=⟨by simp,fun v hv=>by simp only [List.mem_singleton] at hv;subst hv;exact ⟨by simp,by simp only;omega,by simp,by simp only;omega⟩,by simp,rfl⟩
include ha hb in
theorem CB.step {i:Nat} {st:CS} (h:CB al bl n m i st) (hi:i<st.1.length):CB al bl n m (i+1) (EC al bl i st):=by
 obtain ⟨y,hy⟩:=o7 (i:=i) (l:=iH al bl (st.1.getD i default)) (st:=st)
 have hl:=nG (i:=i) (l:=iH al bl (st.1.getD i default)) (st:=st)
 have hin:Qh n m (st.1.getD i default):=h.in_ _ (by rw [List.getD_eq_getElem?_getD,List.getElem?_eq_getElem hi];exact List.getElem_mem hi)
 have e:EC al bl i st=ig i st (iH al bl (st.1.getD i default)):=rfl
 rw [e]
 refine ⟨zg h.nd,CE h.in_ (zh ha hb hin),by rw [hy,List.length_append];omega,?_⟩
 rw [hl.1,h.ln,hy,List.take_append_of_le_length (by omega)]
 have:st.1.take (i+1)=st.1.take i++[st.1.getD i default]:=by rw [List.take_add_one];simp [hi]
 rw [this,List.map_append,mg]
 simp [jA]
theorem CB.bound {i:Nat} {st:CS} (h:CB al bl n m i st):st.1.length<=n*m/\st.2.length<=Qz al bl n m:=by
 refine ⟨by rw [<- PU];exact fQ h.nd fun v hv=>EG (h.in_ v hv),?_⟩
 rw [h.ln]
 have h1:=Jq (f:=fun v=>(iH al bl v).length) (g:=pN al bl) (MP al bl) (st.1.take i)
 have h2:=Ff (pN al bl) (l:=st.1.take i) (m:=grid n m) (h.nd.sublist (List.take_sublist _ _)) fun v hv=>EG (h.in_ v (List.mem_of_mem_take hv))
 have h3:=Rx al bl n m
 omega
include ha hb in
theorem xm (hp:n*m<=2048) (hc:Qz al bl n m<=8192):∀ {f i:Nat} {st:CS},CB al bl n m i st->2048<f+i->∃s2 i',oI al bl f i st=some s2/\CB al bl n m i' s2
 | 0,i,st,h,hf=>by have:=h.bound;have:=h.le;omega
 | f+1,i,st,h,hf=>by
  unfold oI
  by_cases hi:i<st.1.length
  ·have hn:=h.step ha hb hi
   have hbd:=hn.bound
   have hw:within (EC al bl i st)=true:=by simp only [within,decide_eq_true_eq];omega
   rw [if_pos hi,if_pos hw]
   exact xm hp hc hn (by omega)
  ·rw [if_neg hi];exact ⟨st,i,rfl,h⟩
include ha hb in
theorem Gh (hn:0<n) (hm:0<m) (hp:n*m<=2048) (hc:Qz al bl n m<=8192):∃st,vI al bl=some st/\st.1.length<=n*m/\st.2.length<=Qz al bl n m/\∀v∈st.1,Qh n m v:=by
 obtain ⟨s2,i',h1,h2⟩:=xm ha hb hp hc (CB.start hn hm) (f:=2100) (by omega)
 exact ⟨s2,h1,h2.bound.1,h2.bound.2,h2.in_⟩
end
theorem Jy:∀u:List Int,uA u u=false
 | []=>rfl
 | x::u=>by unfold uA;rw [if_pos rfl];exact Jy u
theorem AB:∀ {u v w:List Int},uA u v=true->uA v w=true->uA u w=true
 | x::u,y::v,z::w,h1,h2=>by
  unfold uA at h1 h2 ⊢
  by_cases e1:x=y
  ·subst e1
   by_cases e2:x=z
   ·subst e2
    rw [if_pos rfl] at h1 h2 ⊢
    exact AB h1 h2
   ·rw [if_neg e2] at h2 ⊢;exact h2
  ·rw [if_neg e1] at h1
   by_cases e2:y=z
   ·subst e2;rw [if_neg e1];exact h1
   ·rw [if_neg e2] at h2
    simp only [decide_eq_true_eq] at h1 h2
    rw [if_neg (by omega)]
    simp only [decide_eq_true_eq];omega
 | [],_,_,h1,_=>by simp [uA] at h1
 | _::_,[],_,h1,_=>by simp [uA] at h1
 | _::_,_::_,[],_,h2=>by simp [uA] at h2
theorem Jo:∀ {u v:List Int},u.length=v.length->u≠v->uA u v=false->uA v u=true
 | [],[],_,h,_=>absurd rfl h
 | x::u,y::v,hl,hne,h=>by
  unfold uA at h ⊢
  by_cases e:x=y
  ·subst e
   rw [if_pos rfl] at h ⊢
   exact Jo (by simpa using hl) (fun e=>hne (by rw [e])) h
  ·rw [if_neg e] at h
   rw [if_neg (fun e2=>e e2.symm)]
   simp only [decide_eq_false_iff_not] at h
   simp only [decide_eq_true_eq];omega
theorem BM (u:List Int):Dp u u=false:=by unfold Dp;rw [if_pos rfl];exact Jy u
theorem AA {u v w:List Int} (h1:Dp u v=true) (h2:Dp v w=true):Dp u w=true:=by
 unfold Dp at h1 h2 ⊢
 by_cases e1:u.length=v.length
 ·rw [if_pos e1] at h1
  by_cases e2:v.length=w.length
  ·rw [if_pos e2] at h2;rw [if_pos (e1.trans e2)];exact AB h1 h2
  ·rw [if_neg e2] at h2;rw [if_neg (by omega)];simp only [decide_eq_true_eq] at h2 ⊢;omega
 ·rw [if_neg e1] at h1
  simp only [decide_eq_true_eq] at h1
  by_cases e2:v.length=w.length
  ·rw [if_neg (by omega)];simp only [decide_eq_true_eq];omega
  ·rw [if_neg e2] at h2;simp only [decide_eq_true_eq] at h2;rw [if_neg (by omega)];simp only [decide_eq_true_eq];omega
theorem SV {u v:List Int} (hne:u≠v) (h:Dp u v=false):Dp v u=true:=by
 unfold Dp at h ⊢
 by_cases e:u.length=v.length
 ·rw [if_pos e] at h;rw [if_pos e.symm];exact Jo e hne h
 ·rw [if_neg e] at h;rw [if_neg (fun e2=>e e2.symm)]
  simp only [decide_eq_false_iff_not] at h;simp only [decide_eq_true_eq];omega
abbrev Qy (l:List (List Int)):Prop:=l.Pairwise fun u v=>Dp u v=true
theorem DW {w:List Int}:∀ {l:List (List Int)},Qy l->Qy (lm w l)
 | [],_=>by simp [lm]
 | x::l,h=>by
  have h1:=List.pairwise_cons.1 h
  unfold lm
  split
  ·exact h
  ·rename_i hne
   split
   ·rename_i hb
    refine List.pairwise_cons.2 ⟨fun y hy=>?_,h⟩
    rcases List.mem_cons.1 hy with rfl|hy
    ·exact hb
    ·exact AA hb (h1.1 y hy)
   ·rename_i hb
    refine List.pairwise_cons.2 ⟨fun y hy=>?_,DW h1.2⟩
    rcases mem_insW.1 hy with rfl|hy
    ·exact SV (fun e=>hne e.symm) (by simpa using hb)
    ·exact h1.1 y hy
theorem DX:∀ {l m:List (List Int)},Qy l->Qy m->(∀v,v∈l <-> v∈m)->l=m
 | [],[],_,_,_=>rfl
 | [],y::m,_,_,h=>by have:=(h y).2 (by simp);cases this
 | x::l,[],_,_,h=>by have:=(h x).1 (by simp);cases this
 | x::l,y::m,hl,hm,h=>by
  obtain ⟨a1,a2⟩:=List.pairwise_cons.1 hl
  obtain ⟨b1,b2⟩:=List.pairwise_cons.1 hm
  have hxy:x=y:=by
   rcases List.mem_cons.1 ((h x).1 (by simp)) with e|hx
   ·exact e
   ·rcases List.mem_cons.1 ((h y).2 (by simp)) with e|hy
    ·exact e.symm
    ·have:=AA (b1 x hx) (a1 y hy)
     rw [BM] at this;cases this
  subst hxy
  have hx1:x ∉ l:=fun hx=>by have:=a1 x hx;rw [BM] at this;cases this
  have hx2:x ∉ m:=fun hx=>by have:=b1 x hx;rw [BM] at this;cases this
  rw [DX a2 b2 fun v=>⟨fun hv=>by
   rcases List.mem_cons.1 ((h v).1 (by simp [hv])) with e|hv2
   ·subst e;exact absurd hv hx1
   ·exact hv2,fun hv=>by
   rcases List.mem_cons.1 ((h v).2 (by simp [hv])) with e|hv2
   ·subst e;exact absurd hv hx2
   ·exact hv2⟩]
section
variable {fin:List Bool} {al:List A} {w:List Int}
theorem Et:∀ {u v:List Int} {s t:Int},u.length=v.length->uA u v=true->uA (u++[s]) (v++[t])=true
 | x::u,y::v,s,t,hl,h=>by
  simp only [List.cons_append]
  unfold uA at h ⊢
  by_cases e:x=y
  ·rw [if_pos e] at h ⊢;exact Et (by simpa using hl) h
  ·rw [if_neg e] at h ⊢;exact h
 | [],_,_,_,_,h=>by simp [uA] at h
theorem FX:∀ (u:List Int) {s t:Int},s<t->uA (u++[s]) (u++[t])=true
 | [],s,t,h=>by simp only [List.nil_append];unfold uA;rw [if_neg (by omega)];simpa using h
 | x::u,s,t,h=>by simp only [List.cons_append];unfold uA;rw [if_pos rfl];exact FX u h
theorem QR (v:List Int):(ext fin al w v).Pairwise fun a b=>uA a b=true:=by
 refine List.Pairwise.filter _ ?_
 rw [List.pairwise_map]
 have:(List.range 64).Pairwise (·<·):=List.pairwise_lt_range
 exact this.imp fun h=>FX v (by omega)
theorem Sl (hk:uN al) (n:Nat):(lF fin al w n).Pairwise fun a b=>uA a b=true:=by
 induction n with
 | zero=>unfold lF;split<;>simp
 | succ n ih =>
  unfold lF
  rw [List.pairwise_flatMap]
  refine ⟨fun v _=>QR v,List.Pairwise.imp_of_mem (fun {a b} ha hb hab x hx y hy=>?_) ih⟩
  have h1:=((je hk).1 ha).2
  have h2:=((je hk).1 hb).2
  simp only [ext,List.mem_filter,List.mem_map] at hx hy
  obtain ⟨⟨s,_,rfl⟩,_⟩:=hx
  obtain ⟨⟨t,_,rfl⟩,_⟩:=hy
  exact Et (h1.trans h2.symm) hab
theorem FZ (hk:uN al) (n:Nat):Qy (upto fin al w n):=by
 induction n with
 | zero=>simp [upto]
 | succ n ih =>
  simp only [upto]
  refine List.pairwise_append.2 ⟨ih,?_,fun x hx y hy=>?_⟩
  ·refine List.Pairwise.imp_of_mem (fun {a b} ha hb hab=>?_) (List.Pairwise.filter _ (Sl hk n))
   have h1:=((je hk).1 (List.mem_filter.1 ha).1).2
   have h2:=((je hk).1 (List.mem_filter.1 hb).1).2
   unfold Dp;rw [if_pos (h1.trans h2.symm)];exact hab
  ·have h1:=((rX hk).1 hx).2
   have h2:=((je hk).1 (List.mem_filter.1 hy).1).2
   unfold Dp
   rw [if_neg (by omega)]
   simp only [decide_eq_true_eq];omega
theorem SQ (hk:uN al) {most:Int} {l:List (List Int)} (h:Lst fin al w most l):Qy l:=by
 obtain ⟨n,_,rfl,_⟩:=h;exact FZ hk n
theorem Rz (hk:uN al) {all:List (List Int)} (hs:Qy all) (hm:∀v,v∈all <-> Out fin al w v) {most:Int}:(all.length:Int)<=most->Lst fin al w most all:=fun hl=>by
 obtain ⟨n,hn⟩:=XL hk (L:=all) fun v hv=>(hm v).2 hv
 have e:all=upto fin al w n:=DX hs (FZ hk n) fun v=>by
  rw [hm,rX hk]
  refine ⟨fun h=>⟨h,?_⟩,fun h=>h.1⟩
  rcases Nat.lt_or_ge v.length n with h2|h2
  ·exact h2
  ·have:=Cj hk hn h2
   have h3:=(je (n:=v.length) hk).2 ⟨h.beg,rfl⟩
   rw [this] at h3;cases h3
 exact ⟨n,hn,e,hl⟩
end
end Go.FS
