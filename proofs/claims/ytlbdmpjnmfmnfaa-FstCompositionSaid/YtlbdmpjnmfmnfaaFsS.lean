import Derived.Test.YtlbdmpjnmfmnfaaFsP
set_option linter.unusedSimpArgs false
set_option linter.unusedVariables false
namespace Go.FS
section
variable {fin:List Bool} {al:List A} {w:List Int}
def jl (w:List Int) (y:Nd) (a:A):Option Nd :=
 if a.i = -1 then some (a.f,y.2) else if 0<y.2/\w.getD (y.2 - 1).toNat 0=a.i then some (a.f,y.2 - 1) else none
def IK (n:Nat) (w:List Int) (x:Nd):Prop:=0<=x.1/\x.1<n/\0<=x.2/\x.2<=w.length
theorem EK {n:Nat} {x y:Nd} (hy:IK n w y):(∃o,Mv al w x o y) <-> ∃a∈al,a.t=y.1/\jl w y a=some x:=by
 obtain ⟨x1,x2⟩:=x
 obtain ⟨y1,y2⟩:=y
 obtain ⟨_,_,g0,g1⟩:=hy
 simp only at g0 g1
 constructor
 ·rintro ⟨o,h⟩
  cases h with
  | eps q1 h2 h3=>exact ⟨_,q1,rfl,by simp only [jl,if_pos h3,h2]⟩
  | sym q1 h2 h3 h4 h5 h6 =>
   refine ⟨_,q1,rfl,?_⟩
   simp only at h2 h4 h5 h6 ⊢
   simp only [jl,if_neg h3]
   rw [if_pos ⟨by omega,by rw [show x2+1 - 1=x2 by omega];exact h6⟩,h2]
   simp
 ·rintro ⟨a,h2,rfl,h3⟩
  unfold jl at h3
  split at h3
  ·rename_i hi
   simp only [Option.some.injEq,Prod.mk.injEq] at h3
   obtain ⟨h4,h5⟩:=h3
   subst h4 h5
   exact ⟨a.o,.eps h2 rfl hi⟩
  ·rename_i hi
   split at h3
   ·rename_i hc
    simp only [Option.some.injEq,Prod.mk.injEq] at h3
    obtain ⟨h4,h5⟩:=h3
    simp only at hc
    subst h4 h5
    have:Mv al w (a.f,y2 - 1) a.o (a.t,(y2 - 1)+1):=.sym (x:=(a.f,y2 - 1)) h2 rfl hi (by simp only;omega) (by simp only;omega) hc.2
    rw [show y2 - 1+1=y2 by omega] at this
    exact ⟨a.o,this⟩
   ·cases h3
structure SI (fin:List Bool) (al:List A) (w:List Int) (G td:List Nd):Prop where
 nodup:G.Nodup
 good:∀x∈G++td,Good fin al w x/\IK fin.length w x
 fin:∀p,isFin fin p->(p,(w.length:Int))∈G++td
 pre:∀y∈G,∀a∈al,a.t=y.1->∀x,jl w y a=some x->x∈G++td
theorem xG {p:Int} (h:isFin fin p):p<fin.length:=by
 obtain ⟨h1,h2⟩:=h
 rcases Nat.lt_or_ge p.toNat fin.length with h|h
 ·omega
 ·simp [List.getD_eq_getElem?_getD,List.getElem?_eq_none h] at h2
theorem SI.start {fl:List Int} (hl:∀p,p∈fl <-> isFin fin p):SI fin al w [] (fl.map fun p=>(p,(w.length:Int))):=by
 refine ⟨by simp,fun x hx=>?_,fun p hp=>?_,fun y hy=>by simp at hy⟩
 ·simp only [List.nil_append,List.mem_map] at hx
  obtain ⟨p,hp,rfl⟩:=hx
  have hf:=(hl p).1 hp
  exact ⟨.fin hf,hf.1,xG hf,by simp,by simp⟩
 ·simp only [List.nil_append,List.mem_map]
  exact ⟨p,(hl p).2 hp,rfl⟩
theorem SI.skip {G td:List Nd} {v:Nd} (h:SI fin al w G (td++[v])) (hv:v∈G):SI fin al w G td:=by
 have low:∀x,x∈G++(td++[v])->x∈G++td:=fun x hx=>by
  simp only [List.mem_append,List.mem_singleton] at hx ⊢
  rcases hx with h|h|rfl
  ·exact .inl h
  ·exact .inr h
  ·exact .inl hv
 refine ⟨h.nodup,fun x hx=>h.good x ?_,fun p hp=>low _ (h.fin p hp),fun y hy a ha hat x hx=>low _ (h.pre y hy a ha hat x hx)⟩
 simp only [List.mem_append] at hx ⊢
 rcases hx with h|h
 ·exact .inl h
 ·exact .inr (.inl h)
theorem SI.step (hk:∀a∈al,0<=a.f/\a.f<fin.length) {G td:List Nd} {v:Nd} (h:SI fin al w G (td++[v])) (hv:v ∉ G):SI fin al w (G++[v]) (td++(al.filter fun a=>a.t==v.1).filterMap (jl w v)):=by
 have hg:=h.good v (by simp)
 refine ⟨?_,fun x hx=>?_,fun p hp=>?_,fun y hy a ha hat x hx=>?_⟩
 ·rw [List.nodup_append]
  exact ⟨h.nodup,by simp,fun x hx y hy e=>by simp at hy;subst hy;exact hv (e▸hx)⟩
 ·simp only [List.mem_append,List.mem_singleton,List.mem_filterMap,List.mem_filter,beq_iff_eq] at hx
  rcases hx with (hx|rfl)|hx|⟨a,⟨ha,hat⟩,hx⟩
  ·exact h.good x (by simp [hx])
  ·exact hg
  ·exact h.good x (by simp [hx])
  ·obtain ⟨o,hm⟩:=(EK hg.2).2 ⟨a,ha,hat,hx⟩
   refine ⟨.mv hm hg.1,?_⟩
   obtain ⟨_,_,g1,g2⟩:=hg.2
   have:=hk a ha
   unfold jl at hx
   split at hx
   ·cases hx;exact ⟨this.1,this.2,g1,g2⟩
   ·split at hx
    ·cases hx;exact ⟨this.1,this.2,by simp only;omega,by simp only;omega⟩
    ·cases hx
 ·have:=h.fin p hp
  simp only [List.mem_append,List.mem_singleton] at this ⊢
  rcases this with h|h|h
  ·exact .inl (.inl h)
  ·exact .inr (.inl h)
  ·exact .inl (.inr h)
 ·rcases List.mem_append.1 hy with hy|hy
  ·have:=h.pre y hy a ha hat x hx
   simp only [List.mem_append,List.mem_singleton] at this ⊢
   rcases this with h|h|h
   ·exact .inl (.inl h)
   ·exact .inr (.inl h)
   ·exact .inl (.inr h)
  ·simp only [List.mem_singleton] at hy
   subst hy
   simp only [List.mem_append,List.mem_filterMap,List.mem_filter,beq_iff_eq]
   exact .inr (.inr ⟨a,⟨ha,hat⟩,hx⟩)
theorem SI.done {G:List Nd} (h:SI fin al w G []) (x:Nd):x∈G <-> Good fin al w x:=by
 constructor
 ·intro hx;exact (h.good x (by simpa using hx)).1
 ·intro hg
  induction hg with
  | fin hf=>simpa using h.fin _ hf
  | @mv x y o hm _ ih =>
   obtain ⟨a,ha,hat,hp⟩:=(EK (h.good y (by simpa using ih)).2).1 ⟨o,hm⟩
   simpa using h.pre y ih a ha hat x hp
def nodes (n:Nat) (m:Nat):List Nd:=(List.range n).flatMap fun i:Nat=>(List.range (m+1)).map fun j:Nat=>((i:Int),(j:Int))
theorem yC (n m:Nat):(nodes n m).length=n*(m+1):=by
 unfold nodes
 rw [List.length_flatMap]
 simp only [List.length_map,List.length_range,List.map_const',List.sum_replicate_nat]
theorem yD {n:Nat} {w:List Int} {x:Nd} (h:IK n w x):x∈nodes n w.length:=by
 obtain ⟨h1,h2,h3,h4⟩:=h
 simp only [nodes,List.mem_flatMap,List.mem_map,List.mem_range]
 exact ⟨x.1.toNat,by omega,x.2.toNat,by omega,by ext<;>simp<;>omega⟩
theorem rD {n:Nat} {w:List Int} {G:List Nd} (h:G.Nodup) (hg:∀x∈G,IK n w x):G.length<=n*(w.length+1):=by
 have:=dX h (m:=nodes n w.length) fun x hx=>yD (hg x hx)
 rwa [yC] at this
theorem rZ (hk:∀a∈al,0<=a.f/\a.f<fin.length) {x:Nd} (h:Good fin al w x):IK fin.length w x:=by
 induction h with
 | fin hf=>exact ⟨hf.1,xG hf,by simp,by simp⟩
 | mv hm _ ih =>
  obtain ⟨_,_,g1,g2⟩:=ih
  cases hm with
  | eps h1 h2 _=>have:=hk _ h1;exact ⟨by omega,by omega,g1,g2⟩
  | sym h1 h2 _ h4 h5 _=>have:=hk _ h1;exact ⟨by omega,by omega,h4,by omega⟩
end
end Go.FS
