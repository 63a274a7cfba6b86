import Derived.Test.YtlbdmpjnmfmnfaaFsC
import Derived.Test.YtlbdmpjnmfmnfaaFsS
set_option linter.unusedSimpArgs false
set_option linter.unusedVariables false
namespace Go.Proofs.Ytlbdmpjnmfmnfaa
open Go.RowKit Go.HL Go.FS
section
variable {fin:List Bool} {al:List A} {w:List Int} {G:List Nd}
theorem sJ (hG:∀x,x∈G <-> FS.Good fin al w x) {x y:Nd} {o:Int} (h0:0<=x.2):(Mv al w x o y/\FS.Good fin al w y) <-> ∃a∈al,a.f=x.1/\a.o=o/\iV w G a x.2=(y,true):=by
 constructor
 ·rintro ⟨h,hg⟩
  rw [<- hG] at hg
  cases h with
  | @eps a _ h1 h2 h3=>exact ⟨a,h1,h2,rfl,by simp only [iV,if_pos h3,decide_eq_true hg]⟩
  | @sym a _ h1 h2 h3 h4 h5 h6=>exact ⟨a,h1,h2,rfl,by simp only [iV,if_neg h3,if_pos (show x.2<w.length/\w.getD x.2.toNat 0=a.i from ⟨h5,h6⟩),decide_eq_true hg]⟩
 ·rintro ⟨a,h1,h2,rfl,h3⟩
  unfold iV at h3
  split at h3
  ·rename_i hi
   simp only [Prod.mk.injEq,decide_eq_true_eq] at h3
   obtain ⟨rfl,hg⟩:=h3
   exact ⟨.eps h1 h2 hi,(hG _).1 hg⟩
  ·rename_i hi
   split at h3
   ·rename_i hc
    simp only [Prod.mk.injEq,decide_eq_true_eq] at h3
    obtain ⟨rfl,hg⟩:=h3
    exact ⟨.sym h1 h2 hi h0 hc.1 hc.2,(hG _).1 hg⟩
   ·simp at h3
structure WI (fin:List Bool) (al:List A) (w:List Int) (S:List Nd) (i:Nat) (L M:List Nd):Prop where
 mem:∀x,x∈M <-> x∈L
 nd:M.Nodup
 len:L.length<=S.length+M.length
 sub:∀x∈L,Cl fin al w (·∈S) x
 on:∀x∈S,x∈L
 cl:∀j,j<i->∀y,Mv al w (L.getD j default) (-1) y->FS.Good fin al w y->y∈L
structure WJ (fin:List Bool) (al:List A) (w:List Int) (G S:List Nd) (i:Nat) (v:Nd) (R:List A) (k:Nat) (L M:List Nd):Prop where
 wi:WI fin al w S i L M
 lt:i<L.length
 at_:L.getD i default=v
 row:∀a∈R.take k,a.o = -1->∀y,iV w G a v.2=(y,true)->y∈L
theorem WI.start {S M:List Nd} (h1:M.Nodup) (h2:∀x,x∈M <-> x∈S):WI fin al w S 0 S M :=
 ⟨h2,h1,Nat.le_add_right _ _,fun _ h=>.on h,fun _ h=>h,fun j hj=>by omega⟩
theorem WI.begin {S L M:List Nd} {i:Nat} {R:List A} (h:WI fin al w S i L M) (hi:i<L.length):WJ fin al w G S i (L.getD i default) R 0 L M:=⟨h,hi,rfl,by simp⟩
theorem WJ.skip {S L M:List Nd} {i k:Nat} {v:Nd} {R:List A} (h:WJ fin al w G S i v R k L M) (hk:k<R.length) (hs:(R.getD k default).o = -1->∀y,iV w G (R.getD k default) v.2=(y,true)->y∈L):WJ fin al w G S i v R (k+1) L M:=by
 refine ⟨h.wi,h.lt,h.at_,fun a ha=>?_⟩
 rw [dh hk] at ha
 rcases List.mem_append.1 ha with ha|ha
 ·exact h.row a ha
 ·simp only [List.mem_singleton] at ha;subst ha;exact hs
theorem xZ {L L':List Nd} {i:Nat} (h:i<L.length):(L++L').getD i default=L.getD i default:=by
 simp only [List.getD_eq_getElem?_getD];rw [List.getElem?_append_left h]
theorem WI.le {S L M:List Nd} {i:Nat} (h:WI fin al w S i L M) (hl:i<=L.length) {y:Nd} (hc:Cl fin al w (·∈S) y) (hn:y ∉ L):WI fin al w S i (L++[y]) (M++[y]):=by
 refine ⟨fun x=>by simp [h.mem x],?_,by have:=h.len;simp only [List.length_append,List.length_singleton];omega,fun x hx=>?_,fun x hx=>by simp [h.on x hx],fun j hj z hm hg=>?_⟩
 ·rw [List.nodup_append]
  exact ⟨h.nd,by simp,fun a ha b hb e=>by simp at hb;subst hb;exact hn ((h.mem _).1 (e▸ha))⟩
 ·rcases List.mem_append.1 hx with hx|hx
  ·exact h.sub x hx
  ·simp only [List.mem_singleton] at hx;rw [hx];exact hc
 ·rw [xZ (by omega)] at hm
  simp [h.cl j hj z hm hg]
theorem WJ.add (hG:∀x,x∈G <-> FS.Good fin al w x) {S L M:List Nd} {i k:Nat} {v:Nd} {R:List A} (hR:R=al.filter fun a=>a.f==v.1) (h0:0<=v.2) (h:WJ fin al w G S i v R k L M) (hk:k<R.length) {y:Nd} (ho:(R.getD k default).o = -1) (hy:iV w G (R.getD k default) v.2=(y,true)) (hn:y ∉ L):WJ fin al w G S i v R (k+1) (L++[y]) (M++[y]):=by
 have hmem:R.getD k default∈al/\(R.getD k default).f=v.1:=by
  have:=mg hk
  generalize R.getD k default=a at this
  rw [hR] at this
  simpa using this
 have hm:=(sJ hG (x:=v) (y:=y) (o := -1) h0).2 ⟨_,hmem.1,hmem.2,ho,hy⟩
 have hv:v∈L:=by
  rw [<- h.at_,List.getD_eq_getElem?_getD,List.getElem?_eq_getElem h.lt];exact List.getElem_mem _
 refine ⟨h.wi.le (Nat.le_of_lt h.lt) (.eps (h.wi.sub v hv) hm.1 hm.2) hn,by have:=h.lt;simp;omega,by rw [xZ h.lt];exact h.at_,fun a ha hoa z hz=>?_⟩
 rw [dh hk] at ha
 rcases List.mem_append.1 ha with ha|ha
 ·simp [h.row a ha hoa z hz]
 ·simp only [List.mem_singleton] at ha
  subst ha
  rw [hy] at hz
  simp only [Prod.mk.injEq,and_true] at hz
  simp [hz]
theorem WJ.done (hG:∀x,x∈G <-> FS.Good fin al w x) {S L M:List Nd} {i:Nat} {v:Nd} {R:List A} (hR:R=al.filter fun a=>a.f==v.1) (h0:0<=v.2) (h:WJ fin al w G S i v R R.length L M):WI fin al w S (i+1) L M:=by
 refine ⟨h.wi.mem,h.wi.nd,h.wi.len,h.wi.sub,h.wi.on,fun j hj y hm hg=>?_⟩
 by_cases e:j=i
 ·subst e
  rw [h.at_] at hm
  obtain ⟨a,ha,hf,ho,hy⟩:=(sJ hG (x:=v) (y:=y) (o := -1) h0).1 ⟨hm,hg⟩
  refine h.row a ?_ ho y hy
  rw [List.take_length,hR]
  simp [ha,hf]
 ·exact h.wi.cl j (by omega) y hm hg
theorem WI.done {S L M:List Nd} {i:Nat} (h:WI fin al w S i L M) (hi:L.length<=i) (x:Nd):x∈L <-> Cl fin al w (·∈S) x:=by
 refine ⟨h.sub x,fun hc=>?_⟩
 induction hc with
 | on hs=>exact h.on _ hs
 | @eps y z _ hm hg ih =>
  obtain ⟨j,hj,he⟩:=List.getElem_of_mem ih
  refine h.cl j (by omega) z ?_ hg
  rw [List.getD_eq_getElem?_getD,List.getElem?_eq_getElem hj];simpa [he] using hm
theorem EN {S:Nd->Prop} (hS:∀x,S x->FS.Good fin al w x) {x:Nd} (h:Cl fin al w S x):FS.Good fin al w x:=by
 cases h with
 | on h=>exact hS _ h
 | eps _ _ h=>exact h
theorem WI.card (hG:∀x,x∈G <-> FS.Good fin al w x) {S L M:List Nd} {i:Nat} (h:WI fin al w S i L M) (hS:∀x∈S,FS.Good fin al w x):M.length<=G.length :=
 dX h.nd fun x hx=>(hG x).2 (EN hS (h.sub x ((h.mem x).1 hx)))
end
end Go.Proofs.Ytlbdmpjnmfmnfaa
