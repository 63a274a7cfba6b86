import Derived.Test.YtlbdmpjnmfmnfaaFu2
import Derived.Test.YtlbdmpjnmfmnfaaFu1
set_option linter.unusedSimpArgs false
set_option linter.unusedVariables false
namespace Go.FS
open Go.HL
def iM:List Nat->Nat
 | []=>0
 | a::l=>a+iM l
theorem kH:∀ (l m:List Nat),iM (l++m)=iM l+iM m
 | [],m=>by simp [iM]
 | a::l,m=>by simp only [List.cons_append,iM,kH l m];omega
theorem xh {α:Type} [DecidableEq α] (f:α->Nat):∀ {l:List α} {a:α},a∈l->iM (l.map f)=f a+iM ((l.erase a).map f)
 | b::l,a,h=>by
  by_cases e:b=a
  ·subst e;simp [iM]
  ·have hm:a∈l:=by
    rcases List.mem_cons.1 h with h|h
    ·exact absurd h.symm e
    ·exact h
   have:=xh f hm
   rw [List.erase_cons_tail (by simpa using e)]
   simp only [List.map_cons,iM,this];omega
theorem Ba {α:Type} [DecidableEq α] (f:α->Nat):∀ {l m:List α},l.Nodup->(∀x∈l,x∈m)->iM (l.map f)<=iM (m.map f)
 | [],_,_,_=>Nat.zero_le _
 | a::l,m,hn,hs=>by
  have ha:=hs a (by simp)
  rw [xh f ha]
  have:=Ba f (l:=l) (m:=m.erase a) (List.nodup_cons.1 hn).2 (fun x hx=>by
   have hne:x≠a:=fun e=>(List.nodup_cons.1 hn).1 (e▸hx)
   exact (List.mem_erase_of_ne hne).2 (hs x (by simp [hx])))
  simp only [List.map_cons,iM];omega
theorem FB {α:Type} {f g:α->Nat} (h:∀x,f x<=g x):∀l:List α,iM (l.map f)<=iM (l.map g)
 | []=>Nat.le_refl _
 | a::l=>by have:=h a;have:=FB h l;simp only [List.map_cons,iM];omega
def aN (l:List A) (p:Nat):Nat:=(outA (p:Int) l).length
theorem EC (n:Nat):∀l:List A,iM ((List.range n).map (aN l))<=l.length
 | []=>by
  have:∀r:List Nat,iM (r.map (aN []))=0:=fun r=>by
   induction r with
   | nil=>rfl
   | cons p r ih=>simp only [List.map_cons,iM,ih];rfl
  rw [this];exact Nat.zero_le _
 | a::l=>by
  have ih:=EC n l
  have key:∀m,iM ((List.range m).map (aN (a::l)))<=iM ((List.range m).map (aN l))+(if 0<=a.f/\a.f<m then 1 else 0):=fun m=>by
   induction m with
   | zero=>simp [iM]
   | succ m ihm =>
    rw [List.range_succ,List.map_append,List.map_append,kH,kH]
    simp only [List.map_cons,List.map_nil,iM]
    have e:aN (a::l) m=aN l m+(if a.f=(m:Int) then 1 else 0):=by
     unfold aN outA
     rw [List.filter_cons]
     by_cases h:a.f=(m:Int)
     ·rw [if_pos (by simpa using h),if_pos h];simp
     ·rw [if_neg (by simpa using h),if_neg h];simp
    rw [e]
    have:(if a.f=(m:Int) then 1 else 0)+(if 0<=a.f/\a.f<m then 1 else 0)<=(if 0<=a.f/\a.f<((m+1:Nat):Int) then 1 else 0):=by
     by_cases h1:a.f=(m:Int)
     ·rw [if_pos h1,if_neg (by omega),if_pos (by omega)];omega
     ·by_cases h2:0<=a.f/\a.f<m
      ·rw [if_neg h1,if_pos h2,if_pos (by omega)];omega
      ·rw [if_neg h1,if_neg h2];omega
    omega
  have:=key n
  have h1:(if 0<=a.f/\a.f<(n:Int) then 1 else 0)<=1:=by split<;>omega
  simp only [List.length_cons];omega
def pN (al bl:List A) (v:Nd):Nat:=(outA v.2 bl).length+((outA v.1 al).length+(outA v.1 al).length*(outA v.2 bl).length)
theorem G8 (al bl:List A) (v:Nd):(gy al bl v).length<=pN al bl v:=by
 unfold gy IQ pN
 have h1:=zf (two:=outA v.2 bl) (v:=v)
 have h2:=zL (one:=outA v.1 al) (two:=outA v.2 bl) (v:=v)
 rw [List.length_append]
 rw [Nat.mul_add,Nat.mul_one] at h2
 omega
def grid (n m:Nat):List Nd:=(List.range n).flatMap fun p:Nat=>(List.range m).map fun q:Nat=>((p:Int),(q:Int))
theorem CP {n m:Nat} {v:Nd} (h:LP n m v):v∈grid n m:=by
 obtain ⟨h1,h2,h3,h4⟩:=h
 unfold grid
 simp only [List.mem_flatMap,List.mem_map,List.mem_range]
 exact ⟨v.1.toNat,by omega,v.2.toNat,by omega,by ext<;>simp<;>omega⟩
theorem IY (n m:Nat):(grid n m).length=n*m:=by
 unfold grid
 induction n with
 | zero=>simp
 | succ n ih=>rw [List.range_succ,List.flatMap_append,List.length_append,ih];simp [Nat.add_mul]
theorem Ol (al bl:List A) (p m:Nat):iM (((List.range m).map fun q:Nat=>((p:Int),(q:Int))).map (pN al bl))=iM ((List.range m).map (aN bl))+(m*aN al p+aN al p*iM ((List.range m).map (aN bl))):=by
 induction m with
 | zero=>simp [iM]
 | succ m ih =>
  rw [List.range_succ,List.map_append,List.map_append,List.map_append,kH,kH,ih]
  simp only [List.map_cons,List.map_nil,iM]
  have:pN al bl ((p:Int),(m:Int))=aN bl m+(aN al p+aN al p*aN bl m):=rfl
  rw [this,Nat.mul_add,Nat.add_mul,Nat.mul_add]
  omega
theorem Jj (al bl:List A) (n m:Nat):iM ((grid n m).map (pN al bl))=n*iM ((List.range m).map (aN bl))+(m*iM ((List.range n).map (aN al))+iM ((List.range n).map (aN al))*iM ((List.range m).map (aN bl))):=by
 unfold grid
 induction n with
 | zero=>simp [iM]
 | succ n ih =>
  rw [List.range_succ,List.flatMap_append,List.map_append,kH,ih,List.map_append,kH]
  simp only [List.flatMap_cons,List.flatMap_nil,List.append_nil,List.map_cons,List.map_nil,iM]
  simp only [Ol,Nat.add_zero,Nat.mul_add,Nat.add_mul,Nat.one_mul]
  omega
def LY (al bl:List A) (n m:Nat):Nat:=n*bl.length+(m*al.length+al.length*bl.length)
theorem OA (al bl:List A) (n m:Nat):iM ((grid n m).map (pN al bl))<=LY al bl n m:=by
 rw [Jj]
 have h1:=EC n al
 have h2:=EC m bl
 have h3:=Nat.mul_le_mul (Nat.le_refl n) h2
 have h4:=Nat.mul_le_mul (Nat.le_refl m) h1
 have h5:=Nat.mul_le_mul h1 h2
 unfold LY;omega
structure CB (al bl:List A) (n m i:Nat) (st:CS):Prop where
 nd:st.1.Nodup
 in_:∀v∈st.1,LP n m v
 le:i<=st.1.length
 ln:st.2.length=iM ((st.1.take i).map fun v=>(gy al bl v).length)
section
variable {al bl:List A} {n m:Nat} (ha:∀a∈al,0<=a.t/\a.t<n) (hb:∀b∈bl,0<=b.t/\b.t<m)
theorem CB.start (hn:0<n) (hm:0<m):CB al bl n m 0 ([(0,0)],[]):=⟨by simp,fun v hv=>by simp only [List.mem_singleton] at hv;subst hv;exact ⟨by simp,by simp only;omega,by simp,by simp only;omega⟩,by simp,rfl⟩
include ha hb in
theorem CB.step {i:Nat} {st:CS} (h:CB al bl n m i st) (hi:i<st.1.length):CB al bl n m (i+1) (Bd al bl i st):=by
 obtain ⟨y,hy⟩:=mV (i:=i) (l:=gy al bl (st.1.getD i default)) (st:=st)
 have hl:=lD (i:=i) (l:=gy al bl (st.1.getD i default)) (st:=st)
 have hin:LP n m (st.1.getD i default):=h.in_ _ (by rw [List.getD_eq_getElem?_getD,List.getElem?_eq_getElem hi];exact List.getElem_mem hi)
 have e:Bd al bl i st=fV i st (gy al bl (st.1.getD i default)):=rfl
 rw [e]
 refine ⟨xB h.nd,zi h.in_ (ww ha hb hin),by rw [hy,List.length_append];omega,?_⟩
 rw [hl.1,h.ln,hy,List.take_append_of_le_length (by omega)]
 have:st.1.take (i+1)=st.1.take i++[st.1.getD i default]:=by rw [List.take_add_one];simp [hi]
 rw [this,List.map_append,kH]
 simp [iM]
theorem CB.bound {i:Nat} {st:CS} (h:CB al bl n m i st):st.1.length<=n*m/\st.2.length<=LY al bl n m:=by
 refine ⟨by rw [<- IY];exact dX h.nd fun v hv=>CP (h.in_ v hv),?_⟩
 rw [h.ln]
 have h1:=FB (f:=fun v=>(gy al bl v).length) (g:=pN al bl) (G8 al bl) (st.1.take i)
 have h2:=Ba (pN al bl) (l:=st.1.take i) (m:=grid n m) (h.nd.sublist (List.take_sublist _ _)) fun v hv=>CP (h.in_ v (List.mem_of_mem_take hv))
 have h3:=OA al bl n m
 omega
include ha hb in
theorem uK (hp:n*m<=2048) (hc:LY al bl n m<=8192):∀ {f i:Nat} {st:CS},CB al bl n m i st->2048<f+i->∃s2 i',l7 al bl f i st=some s2/\CB al bl n m i' s2
 | 0,i,st,h,hf=>by have:=h.bound;have:=h.le;omega
 | f+1,i,st,h,hf=>by
  unfold l7
  by_cases hi:i<st.1.length
  ·have hn:=h.step ha hb hi
   have hbd:=hn.bound
   have hw:within (Bd al bl i st)=true:=by simp only [within,decide_eq_true_eq];omega
   rw [if_pos hi,if_pos hw]
   exact uK hp hc hn (by omega)
  ·rw [if_neg hi];exact ⟨st,i,rfl,h⟩
include ha hb in
theorem Eb (hn:0<n) (hm:0<m) (hp:n*m<=2048) (hc:LY al bl n m<=8192):∃st,rP al bl=some st/\st.1.length<=n*m/\st.2.length<=LY al bl n m/\∀v∈st.1,LP n m v:=by
 obtain ⟨s2,i',h1,h2⟩:=uK ha hb hp hc (CB.start hn hm) (f:=2100) (by omega)
 exact ⟨s2,h1,h2.bound.1,h2.bound.2,h2.in_⟩
end
theorem Fa:∀u:List Int,qY u u=false
 | []=>rfl
 | x::u=>by unfold qY;rw [if_pos rfl];exact Fa u
theorem yV:∀ {u v w:List Int},qY u v=true->qY v w=true->qY u w=true
 | x::u,y::v,z::w,h1,h2=>by
  unfold qY at h1 h2 ⊢
  by_cases e1:x=y
  ·subst e1
   by_cases e2:x=z
   ·subst e2
    rw [if_pos rfl] at h1 h2 ⊢
    exact yV h1 h2
   ·rw [if_neg e2] at h2 ⊢;exact h2
  ·rw [if_neg e1] at h1
   by_cases e2:y=z
   ·subst e2;rw [if_neg e1];exact h1
   ·rw [if_neg e2] at h2
    simp only [decide_eq_true_eq] at h1 h2
    rw [if_neg (by omega)]
    simp only [decide_eq_true_eq];omega
 | [],_,_,h1,_=>by simp [qY] at h1
 | _::_,[],_,h1,_=>by simp [qY] at h1
 | _::_,_::_,[],_,h2=>by simp [qY] at h2
theorem Fq:∀ {u v:List Int},u.length=v.length->u≠v->qY u v=false->qY v u=true
 | [],[],_,h,_=>absurd rfl h
 | x::u,y::v,hl,hne,h=>by
  unfold qY at h ⊢
  by_cases e:x=y
  ·subst e
   rw [if_pos rfl] at h ⊢
   exact Fq (by simpa using hl) (fun e=>hne (by rw [e])) h
  ·rw [if_neg e] at h
   rw [if_neg (fun e2=>e e2.symm)]
   simp only [decide_eq_false_iff_not] at h
   simp only [decide_eq_true_eq];omega
theorem zI (u:List Int):zZ u u=false:=by unfold zZ;rw [if_pos rfl];exact Fa u
theorem yf {u v w:List Int} (h1:zZ u v=true) (h2:zZ v w=true):zZ u w=true:=by
 unfold zZ at h1 h2 ⊢
 by_cases e1:u.length=v.length
 ·rw [if_pos e1] at h1
  by_cases e2:v.length=w.length
  ·rw [if_pos e2] at h2;rw [if_pos (e1.trans e2)];exact yV h1 h2
  ·rw [if_neg e2] at h2;rw [if_neg (by omega)];simp only [decide_eq_true_eq] at h2 ⊢;omega
 ·rw [if_neg e1] at h1
  simp only [decide_eq_true_eq] at h1
  by_cases e2:v.length=w.length
  ·rw [if_neg (by omega)];simp only [decide_eq_true_eq];omega
  ·rw [if_neg e2] at h2;simp only [decide_eq_true_eq] at h2;rw [if_neg (by omega)];simp only [decide_eq_true_eq];omega
theorem Ny {u v:List Int} (hne:u≠v) (h:zZ u v=false):zZ v u=true:=by
 unfold zZ at h ⊢
 by_cases e:u.length=v.length
 ·rw [if_pos e] at h;rw [if_pos e.symm];exact Fq e hne h
 ·rw [if_neg e] at h;rw [if_neg (fun e2=>e e2.symm)]
  simp only [decide_eq_false_iff_not] at h;simp only [decide_eq_true_eq];omega
abbrev JG (l:List (List Int)):Prop:=l.Pairwise fun u v=>zZ u v=true
theorem Cc {w:List Int}:∀ {l:List (List Int)},JG l->JG (jJ w l)
 | [],_=>by simp [jJ]
 | x::l,h=>by
  have h1:=List.pairwise_cons.1 h
  unfold jJ
  split
  ·exact h
  ·rename_i hne
   split
   ·rename_i hb
    refine List.pairwise_cons.2 ⟨fun y hy=>?_,h⟩
    rcases List.mem_cons.1 hy with rfl|hy
    ·exact hb
    ·exact yf hb (h1.1 y hy)
   ·rename_i hb
    refine List.pairwise_cons.2 ⟨fun y hy=>?_,Cc h1.2⟩
    rcases mem_insW.1 hy with rfl|hy
    ·exact Ny (fun e=>hne e.symm) (by simpa using hb)
    ·exact h1.1 y hy
theorem wU:∀ {l m:List (List Int)},JG l->JG m->(∀v,v∈l <-> v∈m)->l=m
 | [],[],_,_,_=>rfl
 | [],y::m,_,_,h=>by have:=(h y).2 (by simp);cases this
 | x::l,[],_,_,h=>by have:=(h x).1 (by simp);cases this
 | x::l,y::m,hl,hm,h=>by
  obtain ⟨a1,a2⟩:=List.pairwise_cons.1 hl
  obtain ⟨b1,b2⟩:=List.pairwise_cons.1 hm
  have hxy:x=y:=by
   rcases List.mem_cons.1 ((h x).1 (by simp)) with e|hx
   ·exact e
   ·rcases List.mem_cons.1 ((h y).2 (by simp)) with e|hy
    ·exact e.symm
    ·have:=yf (b1 x hx) (a1 y hy)
     rw [zI] at this;cases this
  subst hxy
  have hx1:x ∉ l:=fun hx=>by have:=a1 x hx;rw [zI] at this;cases this
  have hx2:x ∉ m:=fun hx=>by have:=b1 x hx;rw [zI] at this;cases this
  rw [wU a2 b2 fun v=>⟨fun hv=>by
   rcases List.mem_cons.1 ((h v).1 (by simp [hv])) with e|hv2
   ·subst e;exact absurd hv hx1
   ·exact hv2,fun hv=>by
   rcases List.mem_cons.1 ((h v).2 (by simp [hv])) with e|hv2
   ·subst e;exact absurd hv hx2
   ·exact hv2⟩]
section
variable {fin:List Bool} {al:List A} {w:List Int}
theorem AB:∀ {u v:List Int} {s t:Int},u.length=v.length->qY u v=true->qY (u++[s]) (v++[t])=true
 | x::u,y::v,s,t,hl,h=>by
  simp only [List.cons_append]
  unfold qY at h ⊢
  by_cases e:x=y
  ·rw [if_pos e] at h ⊢;exact AB (by simpa using hl) h
  ·rw [if_neg e] at h ⊢;exact h
 | [],_,_,_,_,h=>by simp [qY] at h
theorem BR:∀ (u:List Int) {s t:Int},s<t->qY (u++[s]) (u++[t])=true
 | [],s,t,h=>by simp only [List.nil_append];unfold qY;rw [if_neg (by omega)];simpa using h
 | x::u,s,t,h=>by simp only [List.cons_append];unfold qY;rw [if_pos rfl];exact BR u h
theorem OC (v:List Int):(ext fin al w v).Pairwise fun a b=>qY a b=true:=by
 refine List.Pairwise.filter _ ?_
 rw [List.pairwise_map]
 have:(List.range 64).Pairwise (·<·):=List.pairwise_lt_range
 exact this.imp fun h=>BR v (by omega)
theorem NT (hk:qH al) (n:Nat):(kM fin al w n).Pairwise fun a b=>qY a b=true:=by
 induction n with
 | zero=>unfold kM;split<;>simp
 | succ n ih =>
  unfold kM
  rw [List.pairwise_flatMap]
  refine ⟨fun v _=>OC v,List.Pairwise.imp_of_mem (fun {a b} ha hb hab x hx y hy=>?_) ih⟩
  have h1:=((ig hk).1 ha).2
  have h2:=((ig hk).1 hb).2
  simp only [ext,List.mem_filter,List.mem_map] at hx hy
  obtain ⟨⟨s,_,rfl⟩,_⟩:=hx
  obtain ⟨⟨t,_,rfl⟩,_⟩:=hy
  exact AB (h1.trans h2.symm) hab
theorem Bq (hk:qH al) (n:Nat):JG (upto fin al w n):=by
 induction n with
 | zero=>simp [upto]
 | succ n ih =>
  simp only [upto]
  refine List.pairwise_append.2 ⟨ih,?_,fun x hx y hy=>?_⟩
  ·refine List.Pairwise.imp_of_mem (fun {a b} ha hb hab=>?_) (List.Pairwise.filter _ (NT hk n))
   have h1:=((ig hk).1 (List.mem_filter.1 ha).1).2
   have h2:=((ig hk).1 (List.mem_filter.1 hb).1).2
   unfold zZ;rw [if_pos (h1.trans h2.symm)];exact hab
  ·have h1:=((o8 hk).1 hx).2
   have h2:=((ig hk).1 (List.mem_filter.1 hy).1).2
   unfold zZ
   rw [if_neg (by omega)]
   simp only [decide_eq_true_eq];omega
theorem NY (hk:qH al) {most:Int} {l:List (List Int)} (h:Lst fin al w most l):JG l:=by
 obtain ⟨n,_,rfl,_⟩:=h;exact Bq hk n
theorem Oh (hk:qH al) {all:List (List Int)} (hs:JG all) (hm:∀v,v∈all <-> Out fin al w v) {most:Int}:(all.length:Int)<=most->Lst fin al w most all:=fun hl=>by
 obtain ⟨n,hn⟩:=QL hk (L:=all) fun v hv=>(hm v).2 hv
 have e:all=upto fin al w n:=wU hs (Bq hk n) fun v=>by
  rw [hm,o8 hk]
  refine ⟨fun h=>⟨h,?_⟩,fun h=>h.1⟩
  rcases Nat.lt_or_ge v.length n with h2|h2
  ·exact h2
  ·have:=y7 hk hn h2
   have h3:=(ig (n:=v.length) hk).2 ⟨h.beg,rfl⟩
   rw [this] at h3;cases h3
 exact ⟨n,hn,e,hl⟩
theorem Nj (hk:qH al) {all:List (List Int)} (hs:JG all) (hm:∀v,v∈all <-> Out fin al w v) {most:Int} (hl:most<(all.length:Int)) (l:List (List Int)):¬ Lst fin al w most l:=fun h=>by
 have e:all=l:=wU hs (NY hk h) fun v=>by rw [hm,h.mem hk]
 subst e
 obtain ⟨_,_,_,h3⟩:=h
 omega
end
end Go.FS
