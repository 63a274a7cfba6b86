import Derived.Test.YtlbdmpjnmfmnfaaFsN
set_option linter.unusedSimpArgs false
set_option linter.unusedVariables false
namespace Go.Proofs.Ytlbdmpjnmfmnfaa
open Go.RowKit Go.HL Go.FS
section
variable {fin:List Bool} {al:List A} {w:List Int}
theorem GB.start {n:Nat} {N:Nat} (h:n*(w.length+1)=N):GB n w [] (List.replicate N false) :=
 ⟨by simp [h],fun x _=>by
  have:(List.replicate N false).getD (cd w.length x).toNat false=false:=by
   rw [List.getD_eq_getElem?_getD,List.getElem?_replicate];split<;>rfl
  rw [this];rfl⟩
theorem GB.add {n:Nat} {G:List Nd} {gb:List Bool} (h:GB n w G gb) {y:Nd} (hy:rP n w y):GB n w (G++[y]) (gb.set (cd w.length y).toNat true):=by
 refine ⟨by rw [List.length_set];exact h.len,fun x hx=>?_⟩
 have hyl:=(ng hy).2
 rw [<- h.len] at hyl
 rw [List.getD_eq_getElem?_getD,List.getElem?_set]
 by_cases e:(cd w.length y).toNat=(cd w.length x).toNat
 ·have h1:=(ng hx).1
  have h2:=(ng hy).1
  have:x=y:=Tv hx hy (by omega)
  subst this
  simp [hyl]
 ·have:x≠y:=fun e2=>e (by rw [e2])
  rw [if_neg e,<- List.getD_eq_getElem?_getD,h.at_ x hx]
  simp [this]
structure RI (fin:List Bool) (al:List A) (w:List Int) (i:Nat) (L:List Nd):Prop where
 nd:L.Nodup
 good:∀x∈L,FS.Good fin al w x/\rP fin.length w x
 fin:∀p,isFin fin p->(p,(w.length:Int))∈L
 pre:∀j,j<i->∀a∈al,a.t=(L.getD j default).1->∀x,iR w (L.getD j default) a=some x->x∈L
structure RJ (fin:List Bool) (al:List A) (w:List Int) (i:Nat) (v:Nd) (R:List A) (k:Nat) (L:List Nd):Prop where
 ri:RI fin al w i L
 lt:i<L.length
 at_:L.getD i default=v
 row:∀a∈R.take k,∀x,iR w v a=some x->x∈L
theorem RI.begin {L:List Nd} {i:Nat} {R:List A} (h:RI fin al w i L) (hi:i<L.length):RJ fin al w i (L.getD i default) R 0 L:=⟨h,hi,rfl,by simp⟩
theorem RJ.mem {L:List Nd} {i k:Nat} {v:Nd} {R:List A} (h:RJ fin al w i v R k L):v∈L:=by
 rw [<- h.at_,List.getD_eq_getElem?_getD,List.getElem?_eq_getElem h.lt];exact List.getElem_mem _
theorem RJ.skip {L:List Nd} {i k:Nat} {v:Nd} {R:List A} (h:RJ fin al w i v R k L) (hk:k<R.length) (hs:∀x,iR w v (R.getD k default)=some x->x∈L):RJ fin al w i v R (k+1) L:=by
 refine ⟨h.ri,h.lt,h.at_,fun a ha=>?_⟩
 rw [dE hk] at ha
 rcases List.mem_append.1 ha with ha|ha
 ·exact h.row a ha
 ·simp only [List.mem_singleton] at ha;subst ha;exact hs
theorem N7 (hk:∀a∈al,0<=a.f/\a.f<fin.length) {a:A} (ha:a∈al) {v x:Nd} (hv:rP fin.length w v) (hx:iR w v a=some x):rP fin.length w x:=by
 have:=hk a ha
 obtain ⟨_,_,g1,g2⟩:=hv
 unfold iR at hx
 split at hx
 ·cases hx;exact ⟨this.1,this.2,g1,g2⟩
 ·split at hx
  ·cases hx;exact ⟨this.1,this.2,by simp only;omega,by simp only;omega⟩
  ·cases hx
theorem RJ.add (hk:∀a∈al,0<=a.f/\a.f<fin.length) {L:List Nd} {i k:Nat} {v:Nd} {R:List A} (hR:R=al.filter fun a=>a.t==v.1) (h:RJ fin al w i v R k L) (hkl:k<R.length) {x:Nd} (hx:iR w v (R.getD k default)=some x) (hn:x ∉ L):RJ fin al w i v R (k+1) (L++[x]):=by
 have hmem:R.getD k default∈al/\(R.getD k default).t=v.1:=by
  have:=gU hkl
  generalize R.getD k default=a at this
  rw [hR] at this
  simpa using this
 have hv:=h.ri.good v h.mem
 obtain ⟨o,hm⟩:=(Ag hv.2).2 ⟨_,hmem.1,hmem.2,hx⟩
 have hgd:∀j,j<L.length->(L++[x]).getD j default=L.getD j default:=fun j hj=>uG hj
 have hlt:=h.lt
 refine ⟨⟨?_,fun y hy=>?_,fun p hp=>by simp [h.ri.fin p hp],fun j hj a ha hat y hy=>?_⟩,by simp;omega,by rw [hgd _ hlt];exact h.at_,fun a ha y hy=>?_⟩
 ·rw [List.nodup_append]
  exact ⟨h.ri.nd,by simp,fun a ha b hb e=>by simp only [List.mem_singleton] at hb;subst hb;subst e;exact hn ha⟩
 ·rcases List.mem_append.1 hy with hy|hy
  ·exact h.ri.good y hy
  ·simp only [List.mem_singleton] at hy
   subst hy
   exact ⟨.mv hm hv.1,N7 hk hmem.1 hv.2 hx⟩
 ·rw [hgd j (by omega)] at hat hy
  simp [h.ri.pre j hj a ha hat y hy]
 ·rw [dE hkl] at ha
  rcases List.mem_append.1 ha with ha|ha
  ·simp [h.row a ha y hy]
  ·simp only [List.mem_singleton] at ha
   subst ha
   rw [hx] at hy
   cases hy
   simp
theorem RJ.done {L:List Nd} {i:Nat} {v:Nd} {R:List A} (hR:R=al.filter fun a=>a.t==v.1) (h:RJ fin al w i v R R.length L):RI fin al w (i+1) L:=by
 refine ⟨h.ri.nd,h.ri.good,h.ri.fin,fun j hj a ha hat x hx=>?_⟩
 by_cases e:j=i
 ·subst e
  rw [h.at_] at hat hx
  refine h.row a ?_ x hx
  rw [List.take_length,hR]
  simp [ha,hat]
 ·exact h.ri.pre j (by omega) a ha hat x hx
theorem RI.done {L:List Nd} {i:Nat} (h:RI fin al w i L) (hi:L.length<=i) (x:Nd):x∈L <-> FS.Good fin al w x:=by
 constructor
 ·intro hx;exact (h.good x hx).1
 ·intro hg
  induction hg with
  | fin hf=>exact h.fin _ hf
  | @mv x y o hm _ ih =>
   obtain ⟨a,ha,hat,hp⟩:=(Ag (h.good y ih).2).1 ⟨o,hm⟩
   obtain ⟨j,hj,he⟩:=List.getElem_of_mem ih
   have e:L.getD j default=y:=by rw [List.getD_eq_getElem?_getD,List.getElem?_eq_getElem hj];exact he
   exact h.pre j (by omega) a ha (by rw [e];exact hat) x (by rw [e];exact hp)
theorem RI.start {L:List Nd} (h:L=(pW fin fin.length).map fun p=>(p,(w.length:Int))):RI fin al w 0 L:=by
 subst h
 refine ⟨?_,fun x hx=>?_,fun p hp=>List.mem_map.2 ⟨p,mem_finL.2 hp,rfl⟩,fun j hj=>by omega⟩
 ·have h1:(pW fin fin.length).Nodup:=by
   unfold pW
   rw [List.Nodup,List.pairwise_map]
   refine List.Pairwise.filter _ ?_
   exact List.nodup_range.imp fun h e=>h (by omega)
  rw [List.Nodup,List.pairwise_map]
  exact List.Pairwise.imp (fun h e=>h (by simpa using e)) h1
 ·obtain ⟨p,hp,rfl⟩:=List.mem_map.1 hx
  have hf:=mem_finL.1 hp
  exact ⟨.fin hf,hf.1,xJ hf,by simp,by simp⟩
def zY (fin:List Bool) (w:List Int) (k:Nat):List Nd:=(pW fin k).map fun p=>(p,(w.length:Int))
theorem Lp {k:Nat} (h:fin.getD k false=true):zY fin w (k+1)=zY fin w k++[((k:Int),(w.length:Int))]:=by
 unfold zY;rw [uC,if_pos h];simp
theorem O8 {k:Nat} (h:fin.getD k false=false):zY fin w (k+1)=zY fin w k:=by
 unfold zY;rw [uC,if_neg (by rw [h];simp)]
theorem JL (k:Nat):(zY fin w k).length<=k:=by
 unfold zY;rw [List.length_map];exact xO fin k
end
def oq (w:List Int) (l:List Nd):List HV:=HL.ints (l.map (cd w.length))
theorem Nz (w:List Int) (l:List Nd):(oq w l).length=l.length:=by simp [oq,HL.ints]
theorem nK (w:List Int) (l:List Nd) (x:Nd):oq w l++[.int .i64 (cd w.length x)]=oq w (l++[x]):=by simp [oq,HL.ints]
theorem NS (w:List Int) (l:List Nd) {i:Nat} (h:i<l.length):(oq w l).getD i .dead=.int .i64 (cd w.length (l.getD i default)):=by simp [oq,HL.ints,h]
theorem Kr (w:List Int) (l:List Nd):iq (oq w l)=true:=HL.ints_cell _
theorem uH (w:List Int) (l:List Nd):stripL (oq w l)=oq w l:=HL.ints_strip _
theorem GI (w:List Int) (l:List Nd):win (oq w l) 0 l.length=oq w l:=jc _ (by simp [oq,HL.ints])
theorem KE (w:List Int) (l:List Nd):win (oq w l) 0 (l.length*1)=oq w l:=jc _ (by simp [oq,HL.ints])
theorem wF (w:List Int) (l:List Nd):fM (oq w l)=true:=HL.ints_noRd _
attribute [go_sem] Nz NS Kr uH GI KE
end Go.Proofs.Ytlbdmpjnmfmnfaa
