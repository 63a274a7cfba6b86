import Derived.Test.YtlbdmpjnmfmnfaaFs2
import Derived.Test.YtlbdmpjnmfmnfaaFsG
import Derived.Test.YtlbdmpjnmfmnfaaFsL
import Derived.Test.YtlbdmpjnmfmnfaaFsM
section
set_option linter.unusedSimpArgs false
set_option linter.unusedVariables false
namespace Go.Proofs.Ytlbdmpjnmfmnfaa
open Go.RowKit Go.HL Go.FS
section
variable {fin:List Bool} {al:List A} {w:List Int}
theorem GB.start {n:Nat} {N:Nat} (h:n*(w.length+1)=N):GB n w [] (List.replicate N false) :=
 ⟨by simp [h],fun x _=>by
  have:(List.replicate N false).getD (cd w.length x).toNat false=false:=by
   rw [List.getD_eq_getElem?_getD,List.getElem?_replicate];split<;>rfl
  rw [this];rfl⟩
structure RI (fin:List Bool) (al:List A) (w:List Int) (i:Nat) (L:List Nd):Prop where
 nd:L.Nodup
 good:∀x∈L,FS.Good fin al w x/\IK fin.length w x
 fin:∀p,isFin fin p->(p,(w.length:Int))∈L
 pre:∀j,j<i->∀a∈al,a.t=(L.getD j default).1->∀x,jl w (L.getD j default) a=some x->x∈L
structure RJ (fin:List Bool) (al:List A) (w:List Int) (i:Nat) (v:Nd) (R:List A) (k:Nat) (L:List Nd):Prop where
 ri:RI fin al w i L
 lt:i<L.length
 at_:L.getD i default=v
 row:∀a∈R.take k,∀x,jl w v a=some x->x∈L
theorem RI.begin {L:List Nd} {i:Nat} {R:List A} (h:RI fin al w i L) (hi:i<L.length):RJ fin al w i (L.getD i default) R 0 L:=⟨h,hi,rfl,by simp⟩
theorem RJ.skip {L:List Nd} {i k:Nat} {v:Nd} {R:List A} (h:RJ fin al w i v R k L) (hk:k<R.length) (hs:∀x,jl w v (R.getD k default)=some x->x∈L):RJ fin al w i v R (k+1) L:=by
 refine ⟨h.ri,h.lt,h.at_,fun a ha=>?_⟩
 rw [dh hk] at ha
 rcases List.mem_append.1 ha with ha|ha
 ·exact h.row a ha
 ·simp only [List.mem_singleton] at ha;subst ha;exact hs
theorem RJ.done {L:List Nd} {i:Nat} {v:Nd} {R:List A} (hR:R=al.filter fun a=>a.t==v.1) (h:RJ fin al w i v R R.length L):RI fin al w (i+1) L:=by
 refine ⟨h.ri.nd,h.ri.good,h.ri.fin,fun j hj a ha hat x hx=>?_⟩
 by_cases e:j=i
 ·subst e
  rw [h.at_] at hat hx
  refine h.row a ?_ x hx
  rw [List.take_length,hR]
  simp [ha,hat]
 ·exact h.ri.pre j (by omega) a ha hat x hx
theorem RI.done {L:List Nd} {i:Nat} (h:RI fin al w i L) (hi:L.length<=i) (x:Nd):x∈L <-> FS.Good fin al w x:=by
 constructor
 ·intro hx;exact (h.good x hx).1
 ·intro hg
  induction hg with
  | fin hf=>exact h.fin _ hf
  | @mv x y o hm _ ih =>
   obtain ⟨a,ha,hat,hp⟩:=(EK (h.good y ih).2).1 ⟨o,hm⟩
   obtain ⟨j,hj,he⟩:=List.getElem_of_mem ih
   have e:L.getD j default=y:=by rw [List.getD_eq_getElem?_getD,List.getElem?_eq_getElem hj];exact he
   exact h.pre j (by omega) a ha (by rw [e];exact hat) x (by rw [e];exact hp)
theorem RI.start {L:List Nd} (h:L=(qE fin fin.length).map fun p=>(p,(w.length:Int))):RI fin al w 0 L:=by
 subst h
 refine ⟨?_,fun x hx=>?_,fun p hp=>List.mem_map.2 ⟨p,mem_finL.2 hp,rfl⟩,fun j hj=>by omega⟩
 ·have h1:(qE fin fin.length).Nodup:=by
   unfold qE
   rw [List.Nodup,List.pairwise_map]
   refine List.Pairwise.filter _ ?_
   exact List.nodup_range.imp fun h e=>h (by omega)
  rw [List.Nodup,List.pairwise_map]
  exact List.Pairwise.imp (fun h e=>h (by simpa using e)) h1
 ·obtain ⟨p,hp,rfl⟩:=List.mem_map.1 hx
  have hf:=mem_finL.1 hp
  exact ⟨.fin hf,hf.1,xG hf,by simp,by simp⟩
end
def L8 (w:List Int) (l:List Nd):List HV:=HL.ints (l.map (cd w.length))
theorem LX (w:List Int) (l:List Nd):fO (L8 w l)=true:=HL.ints_cell _
theorem GV (w:List Int) (l:List Nd):stripL (L8 w l)=L8 w l:=HL.ints_strip _
theorem Nw (w:List Int) (l:List Nd):win (L8 w l) 0 l.length=L8 w l:=iJ _ (by simp [L8,HL.ints])
theorem J4 (w:List Int) (l:List Nd):win (L8 w l) 0 (l.length*1)=L8 w l:=iJ _ (by simp [L8,HL.ints])
attribute [go_sem] LX GV Nw J4
end Go.Proofs.Ytlbdmpjnmfmnfaa
end
section
set_option linter.unusedSimpArgs false
set_option linter.unusedVariables false
namespace Go.Proofs.Ytlbdmpjnmfmnfaa
open Go.RowKit Go.HL Go.FS
end Go.Proofs.Ytlbdmpjnmfmnfaa
end
section
set_option linter.unusedSimpArgs false
set_option linter.unusedVariables false
namespace Go.Proofs.Ytlbdmpjnmfmnfaa
open Go.RowKit Go.HL Go.FS
section
variable {fin:List Bool} {al:List A} {w:List Int} {G:List Nd}
structure BI (fin:List Bool) (al:List A) (w:List Int) (S:List Nd) (s:Int) (i:Nat) (T:List Nd):Prop where
 sub:∀y∈T,By fin al w (·∈S) s y
 cl:∀j,j<i->∀y,Mv al w (S.getD j default) s y->FS.Good fin al w y->y∈T
structure BJ (fin:List Bool) (al:List A) (w:List Int) (G S:List Nd) (s:Int) (i:Nat) (v:Nd) (R:List A) (k:Nat) (T:List Nd):Prop where
 bi:BI fin al w S s i T
 row:∀a∈R.take k,a.o=s->∀y,iV w G a v.2=(y,true)->y∈T
theorem BI.start {S:List Nd} {s:Int}:BI fin al w S s 0 []:=⟨by simp,fun j hj=>by omega⟩
theorem BI.begin {S:List Nd} {s:Int} {i:Nat} {v:Nd} {R:List A} {T:List Nd} (h:BI fin al w S s i T):BJ fin al w G S s i v R 0 T:=⟨h,by simp⟩
theorem BJ.skip {S:List Nd} {s:Int} {i k:Nat} {v:Nd} {R:List A} {T:List Nd} (h:BJ fin al w G S s i v R k T) (hk:k<R.length) (hs:(R.getD k default).o=s->∀y,iV w G (R.getD k default) v.2=(y,true)->False):BJ fin al w G S s i v R (k+1) T:=by
 refine ⟨h.bi,fun a ha ho y hy=>?_⟩
 rw [dh hk] at ha
 rcases List.mem_append.1 ha with ha|ha
 ·exact h.row a ha ho y hy
 ·simp only [List.mem_singleton] at ha;subst ha;exact (hs ho y hy).elim
theorem BJ.done (hG:∀x,x∈G <-> FS.Good fin al w x) {S:List Nd} {s:Int} {i:Nat} {v:Nd} {R:List A} {T:List Nd} (hat:S.getD i default=v) (hR:R=al.filter fun a=>a.f==v.1) (h0:0<=v.2) (h:BJ fin al w G S s i v R R.length T):BI fin al w S s (i+1) T:=by
 refine ⟨h.bi.sub,fun j hj y hm hg=>?_⟩
 by_cases e:j=i
 ·subst e
  rw [hat] at hm
  obtain ⟨a,ha,hf,ho,hy⟩:=(sJ hG (x:=v) (y:=y) (o:=s) h0).1 ⟨hm,hg⟩
  refine h.row a ?_ ho y hy
  rw [List.take_length,hR]
  simp [ha,hf]
 ·exact h.bi.cl j (by omega) y hm hg
theorem BI.done {S:List Nd} {s:Int} {i:Nat} {T:List Nd} (h:BI fin al w S s i T) (hi:S.length<=i) (y:Nd):y∈T <-> By fin al w (·∈S) s y:=by
 refine ⟨h.sub y,fun ⟨x,hx,hm,hg⟩=>?_⟩
 obtain ⟨j,hj,he⟩:=List.getElem_of_mem hx
 refine h.cl j (by omega) y ?_ hg
 rw [List.getD_eq_getElem?_getD,List.getElem?_eq_getElem hj];simpa [he] using hm
end
end Go.Proofs.Ytlbdmpjnmfmnfaa
end
section
set_option linter.unusedSimpArgs false
set_option linter.unusedVariables false
namespace Go.Proofs.Ytlbdmpjnmfmnfaa
open Go.RowKit Go.HL Go.FS
attribute [go_sem] List.length_map
end Go.Proofs.Ytlbdmpjnmfmnfaa
end
section
set_option linter.unusedSimpArgs false
set_option linter.unusedVariables false
namespace Go.Proofs.Ytlbdmpjnmfmnfaa
open Go.RowKit Go.HL Go.FS
end Go.Proofs.Ytlbdmpjnmfmnfaa
end
section
set_option linter.unusedSimpArgs false
set_option linter.unusedVariables false
namespace Go.Proofs.Ytlbdmpjnmfmnfaa
open Go.RowKit Go.HL Go.FS
end Go.Proofs.Ytlbdmpjnmfmnfaa
end
section
set_option linter.unusedSimpArgs false
set_option linter.unusedVariables false
namespace Go.Proofs.Ytlbdmpjnmfmnfaa
open Go.RowKit Go.HL Go.FS
end Go.Proofs.Ytlbdmpjnmfmnfaa
end
