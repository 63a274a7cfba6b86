import Derived.Test.YtlbdmpjnmfmnfaaFs3
import Derived.Test.YtlbdmpjnmfmnfaaHlW
import Derived.Test.YtlbdmpjnmfmnfaaFsW
set_option linter.unusedSimpArgs false
set_option linter.unusedVariables false
section
namespace Go.Proofs.Ytlbdmpjnmfmnfaa
open Go.RowKit Go.HL Go.FS
section
variable {fin:List Bool} {al:List A} {w:List Int}
theorem GB.start {n:Nat} {N:Nat} (h:n*(w.length+1)=N):GB n w [] (List.replicate N false) :=
 ⟨by simp [h],fun x _=>by
  have:(List.replicate N false).getD (cd w.length x).toNat false=false:=by
   rw [bf,List.getElem?_replicate];split<;>rfl
  rw [this];rfl⟩
structure RI (fin:List Bool) (al:List A) (w:List Int) (i:Nat) (L:List Nd):Prop where
 nd:L.Nodup
 good:∀x∈L,FS.Good fin al w x/\U8 fin.length w x
 fin:∀p,isFin fin p->(p,(w.length:Int))∈L
 pre:∀j,j<i->∀a∈al,a.t=(L.getD j default).1->∀x,ny w (L.getD j default) a=some x->x∈L
structure RJ (fin:List Bool) (al:List A) (w:List Int) (i:Nat) (v:Nd) (R:List A) (k:Nat) (L:List Nd):Prop where
 ri:RI fin al w i L
 lt:i<L.length
 at_:L.getD i default=v
 row:∀a∈R.take k,∀x,ny w v a=some x->x∈L
theorem RI.begin {L:List Nd} {i:Nat} {R:List A} (h:RI fin al w i L) (hi:i<L.length):RJ fin al w i (L.getD i default) R 0 L:=⟨h,hi,rfl,by simp⟩
theorem RJ.skip {L:List Nd} {i k:Nat} {v:Nd} {R:List A} (h:RJ fin al w i v R k L) (hk:k<R.length) (hs:∀x,ny w v (R.getD k default)=some x->x∈L):RJ fin al w i v R (k+1) L:=by
 refine ⟨h.ri,h.lt,h.at_,fun a ha=>?_⟩
 rw [bY hk] at ha
 rcases zl002.1 ha with ha|ha
 ·exact h.row a ha
 ·simp only [zl009] at ha;subst ha;exact hs
theorem RJ.done {L:List Nd} {i:Nat} {v:Nd} {R:List A} (hR:R=al.filter fun a=>a.t==v.1) (h:RJ fin al w i v R R.length L):RI fin al w (i+1) L:=by
 refine ⟨h.ri.nd,h.ri.good,h.ri.fin,fun j hj a ha hat x hx=>?_⟩
 by_cases e:j=i
 ·subst e
  rw [h.at_] at hat hx
  refine h.row a ?_ x hx
  rw [ig,hR]
  simp [ha,hat]
 ·exact h.ri.pre j (by omega) a ha hat x hx
theorem RI.done {L:List Nd} {i:Nat} (h:RI fin al w i L) (hi:L.length<=i) (x:Nd):x∈L <-> FS.Good fin al w x:=by
 constructor
 ·intro hx;exact (h.good x hx).1
 ·intro hg
  induction hg with
  | fin hf=>exact h.fin _ hf
  | @mv x y o hm _ ih =>
   obtain ⟨a,ha,hat,hp⟩:=(Qz (h.good y ih).2).1 ⟨o,hm⟩
   obtain ⟨j,hj,he⟩:=uD ih
   have e:L.getD j default=y:=by rw [bf,bn hj];exact he
   exact h.pre j (by omega) a ha (by rw [e];exact hat) x (by rw [e];exact hp)
theorem RI.start {L:List Nd} (h:L=(wo fin fin.length).map fun p=>(p,(w.length:Int))):RI fin al w 0 L:=by
 subst h
 refine ⟨?_,fun x hx=>?_,fun p hp=>zl020.2 ⟨p,mem_finL.2 hp,rfl⟩,fun j hj=>by omega⟩
 ·have h1:(wo fin fin.length).Nodup:=by
   unfold wo
   rw [List.Nodup,List.pairwise_map]
   refine List.Pairwise.filter _ ?_
   exact List.nodup_range.imp fun h e=>h (by omega)
  rw [List.Nodup,List.pairwise_map]
  exact List.Pairwise.imp (fun h e=>h (by simpa using e)) h1
 ·obtain ⟨p,hp,rfl⟩:=zl020.1 hx
  have hf:=mem_finL.1 hp
  exact ⟨.fin hf,hf.1,GN hf,by simp,by simp⟩
end
def YE (w:List Int) (l:List Nd):List HV:=HL.ints (l.map (cd w.length))
theorem Vq (w:List Int) (l:List Nd):gW (YE w l)=true:=HL.ints_cell _
theorem U3 (w:List Int) (l:List Nd):stripL (YE w l)=YE w l:=HL.ints_strip _
theorem YM (w:List Int) (l:List Nd):win (YE w l) 0 l.length=YE w l:=dw _ (by simp [YE,HL.ints])
theorem Xi (w:List Int) (l:List Nd):win (YE w l) 0 (l.length*1)=YE w l:=dw _ (by simp [YE,HL.ints])
attribute [go_sem] Vq U3 YM Xi
section
variable {fin:List Bool} {al:List A} {w:List Int} {G:List Nd}
structure LN (fin:List Bool) (al:List A) (w:List Int) (S:List Nd) (i:Nat) (ks:List Int) (V:Int->List Nd):Prop where
 nd:ks.Nodup
 vnd:∀s,(V s).Nodup
 out:∀s,V s≠[] <-> s∈ks
 sub:∀s,∀y∈V s,s ≠ -1/\By fin al w (·∈S) s y
 cl:∀j,j<i->∀s y,s ≠ -1->Mv al w (S.getD j default) s y->FS.Good fin al w y->y∈V s
structure LJ (fin:List Bool) (al:List A) (w:List Int) (G S:List Nd) (i:Nat) (v:Nd) (R:List A) (k:Nat) (ks:List Int) (V:Int->List Nd):Prop where
 ln:LN fin al w S i ks V
 row:∀a∈R.take k,a.o ≠ -1->∀y,kQ w G a v.2=(y,true)->y∈V a.o
def XR (V:Int->List Nd) (s:Int) (y:Nd):Int->List Nd:=fun t=>if t=s then ins y (V s) else V t
theorem acb (V:Int->List Nd) (s:Int) (y:Nd):XR V s y s=ins y (V s):=by simp [XR]
theorem abx {V:Int->List Nd} {s t:Int} {y:Nd} (h:t≠s):XR V s y t=V t:=by simp [XR,h]
theorem mem_upV {V:Int->List Nd} {s t:Int} {y z:Nd}:z∈XR V s y t <-> (t=s/\z=y)\/z∈V t:=by
 unfold XR
 split
 ·rename_i h;subst h;simp [mem_ins]
 ·rename_i h;simp [h]
theorem LN.start {S:List Nd}:LN fin al w S 0 [] (fun _=>[]) :=
 ⟨by simp,fun _=>by simp,fun s=>by simp,fun s y h=>by simp at h,fun j hj=>by omega⟩
theorem LN.begin {S:List Nd} {i:Nat} {v:Nd} {R:List A} {ks:List Int} {V:Int->List Nd} (h:LN fin al w S i ks V):LJ fin al w G S i v R 0 ks V:=⟨h,by simp⟩
theorem LJ.skip {S:List Nd} {i k:Nat} {v:Nd} {R:List A} {ks:List Int} {V:Int->List Nd} (h:LJ fin al w G S i v R k ks V) (hk:k<R.length) (hs:(R.getD k default).o ≠ -1->∀y,kQ w G (R.getD k default) v.2=(y,true)->False):LJ fin al w G S i v R (k+1) ks V:=by
 refine ⟨h.ln,fun a ha ho y hy=>?_⟩
 rw [bY hk] at ha
 rcases zl002.1 ha with ha|ha
 ·exact h.row a ha ho y hy
 ·simp only [zl009] at ha;subst ha;exact (hs ho y hy).elim
theorem LJ.add (hG:∀x,x∈G <-> FS.Good fin al w x) {S:List Nd} {i k:Nat} {v:Nd} {R:List A} {ks:List Int} {V:Int->List Nd} (hR:R=al.filter fun a=>a.f==v.1) (h0:0<=v.2) (hv:v∈S) (h:LJ fin al w G S i v R k ks V) (hk:k<R.length) {y:Nd} (ho:(R.getD k default).o ≠ -1) (hy:kQ w G (R.getD k default) v.2=(y,true)):LJ fin al w G S i v R (k+1) (ins (R.getD k default).o ks) (XR V (R.getD k default).o y):=by
 have hmem:R.getD k default∈al/\(R.getD k default).f=v.1:=by
  have:=lq hk
  generalize R.getD k default=a at this
  rw [hR] at this
  simpa using this
 have hm:=(CP hG (x:=v) (y:=y) (o:=(R.getD k default).o) h0).2 ⟨_,hmem.1,hmem.2,rfl,hy⟩
 refine ⟨⟨HL.ins_nodup h.ln.nd,fun s=>?_,fun s=>?_,fun s z hz=>?_,fun j hj s z hs hm hg=>mem_upV.2 (.inr (h.ln.cl j hj s z hs hm hg))⟩,fun a ha hoa z hz=>?_⟩
 ·unfold XR;split
  ·exact HL.ins_nodup (h.ln.vnd _)
  ·exact h.ln.vnd s
 ·rw [mem_ins,<- h.ln.out]
  by_cases e:s=(R.getD k default).o
  ·subst e
   rw [acb]
   refine ⟨fun _=>.inl rfl,fun _ hn=>?_⟩
   have:y∈ins y (V (R.getD k default).o):=mem_ins.2 (.inl rfl)
   rw [hn] at this;cases this
  ·rw [abx e];exact ⟨.inr,fun h=>h.resolve_left e⟩
 ·rcases mem_upV.1 hz with ⟨rfl,rfl⟩|hz
  ·exact ⟨ho,v,hv,hm.1,hm.2⟩
  ·exact h.ln.sub s z hz
 ·rw [bY hk] at ha
  rcases zl002.1 ha with ha|ha
  ·exact mem_upV.2 (.inr (h.row a ha hoa z hz))
  ·simp only [zl009] at ha
   subst ha
   rw [hy] at hz
   simp only [jg,and_true] at hz
   exact mem_upV.2 (.inl ⟨rfl,hz.symm⟩)
theorem LJ.done (hG:∀x,x∈G <-> FS.Good fin al w x) {S:List Nd} {i:Nat} {R:List A} {ks:List Int} {V:Int->List Nd} (hR:R=al.filter fun a=>a.f==(S.getD i default).1) (h0:0<=(S.getD i default).2) (h:LJ fin al w G S i (S.getD i default) R R.length ks V):LN fin al w S (i+1) ks V:=by
 refine ⟨h.ln.nd,h.ln.vnd,h.ln.out,h.ln.sub,fun j hj s y hs hm hg=>?_⟩
 by_cases e:j=i
 ·subst e
  obtain ⟨a,ha,hf,ho,hy⟩:=(CP hG (y:=y) (o:=s) h0).1 ⟨hm,hg⟩
  subst ho
  refine h.row a ?_ hs y hy
  rw [ig,hR]
  simp [ha,hf]
 ·exact h.ln.cl j (by omega) s y hs hm hg
theorem LN.done {S:List Nd} {i:Nat} {ks:List Int} {V:Int->List Nd} (h:LN fin al w S i ks V) (hi:S.length<=i) {s:Int} {y:Nd}:y∈V s <-> s ≠ -1/\By fin al w (·∈S) s y:=by
 refine ⟨h.sub s y,fun ⟨hs,x,hx,hm,hg⟩=>?_⟩
 obtain ⟨j,hj,he⟩:=uD hx
 refine h.cl j (by omega) s y hs ?_ hg
 rw [bf,bn hj];simpa [he] using hm
theorem LN.key (hk:Eh al) {S:List Nd} {i:Nat} {ks:List Int} {V:Int->List Nd} (h:LN fin al w S i ks V) {s:Int} (hs:s∈ks):0<=s/\s<64:=by
 obtain ⟨y,hy⟩:=RZ _ ((h.out s).2 hs)
 obtain ⟨h1,x,_,hm,_⟩:=h.sub s y hy
 obtain ⟨a,ha,rfl⟩:=W9 hm
 have:=hk a ha
 omega
theorem LN.keys (hk:Eh al) {S:List Nd} {i:Nat} {ks:List Int} {V:Int->List Nd} (h:LN fin al w S i ks V):ks.length<=64:=by
 have:=fB h.nd (m:=(List.range 64).map fun i:Nat=>(i:Int)) fun s hs=>by
  have:=h.key hk hs
  exact zl020.2 ⟨s.toNat,by simp;omega,by omega⟩
 simpa using this
theorem LN.card (hG:∀x,x∈G <-> FS.Good fin al w x) {S:List Nd} {i:Nat} {ks:List Int} {V:Int->List Nd} (h:LN fin al w S i ks V) (s:Int):(V s).length<=G.length :=
 fB (h.vnd s) fun x hx=>by obtain ⟨_,_,_,_,hg⟩:=h.sub s x hx;exact (hG x).2 hg
open Classical in
noncomputable def QE (fin:List Bool) (al:List A) (w:List Int) (u:List Int) (k:Nat):List (List Int):=((List.range k).map fun s:Nat=>u++[(s:Int)]).filter fun v=>decide (Beg fin al w v)
theorem ZQ (u:List Int):QE fin al w u 64=ext fin al w u:=rfl
open Classical in
theorem Uu (u:List Int) (k:Nat):QE fin al w u (k+1)=if Beg fin al w (u++[(k:Int)]) then QE fin al w u k++[u++[(k:Int)]] else QE fin al w u k:=by
 unfold QE
 rw [JE,oW,ER]
 by_cases h:Beg fin al w (u++[(k:Int)])<;>simp [h]
structure Row (fin:List Bool) (al:List A) (w:List Int) (m:Nat) (q:List Int×List Nd):Prop where
 at_:∀x,x∈q.2 <-> At fin al w q.1 x
 len:q.2.length<=2*m
theorem VO {u:List Int} {S:List Nd} (hS:∀x,x∈S <-> At fin al w u x) {i:Nat} {ks:List Int} {V:Int->List Nd} (h:LN fin al w S i ks V) (hi:S.length<=i) {s:Int} (hs:s ≠ -1) (T:List Nd) (hT:∀x,x∈T <-> x∈V s) (y:Nd):Cl fin al w (·∈T) y <-> At fin al w (u++[s]) y:=by
 rw [zU hs]
 have e:(fun x=>x∈T)=By fin al w (At fin al w u) s:=by
  funext x
  have e2:(fun x=>x∈S)=At fin al w u:=funext fun x=>propext (hS x)
  rw [<- e2]
  exact propext ((hT x).trans ((h.done hi).trans ⟨fun h=>h.2,fun h=>⟨hs,h⟩⟩))
 rw [e]
theorem abk {u:List Int} {S:List Nd} (hS:∀x,x∈S <-> At fin al w u x) {i:Nat} {ks:List Int} {V:Int->List Nd} (h:LN fin al w S i ks V) (hi:S.length<=i) {s:Int} (hs:s ≠ -1):Beg fin al w (u++[s]) <-> V s≠[]:=by
 constructor
 ·rintro ⟨y,hy⟩ hn
  rw [<- VO hS h hi hs (V s) (fun _=>Iff.rfl)] at hy
  rw [hn] at hy
  clear hn
  induction hy with
  | on h=>cases h
  | eps _ _ _ ih=>exact ih
 ·intro hn
  obtain ⟨y,hy⟩:=RZ _ hn
  exact ⟨y,(VO hS h hi hs (V s) (fun _=>Iff.rfl) y).1 (.on hy)⟩
end
section
variable {fin:List Bool} {al:List A} {w:List Int} {G:List Nd}
structure BI (fin:List Bool) (al:List A) (w:List Int) (S:List Nd) (s:Int) (i:Nat) (T:List Nd):Prop where
 sub:∀y∈T,By fin al w (·∈S) s y
 cl:∀j,j<i->∀y,Mv al w (S.getD j default) s y->FS.Good fin al w y->y∈T
structure BJ (fin:List Bool) (al:List A) (w:List Int) (G S:List Nd) (s:Int) (i:Nat) (v:Nd) (R:List A) (k:Nat) (T:List Nd):Prop where
 bi:BI fin al w S s i T
 row:∀a∈R.take k,a.o=s->∀y,kQ w G a v.2=(y,true)->y∈T
theorem BI.start {S:List Nd} {s:Int}:BI fin al w S s 0 []:=⟨by simp,fun j hj=>by omega⟩
theorem BI.begin {S:List Nd} {s:Int} {i:Nat} {v:Nd} {R:List A} {T:List Nd} (h:BI fin al w S s i T):BJ fin al w G S s i v R 0 T:=⟨h,by simp⟩
theorem BJ.skip {S:List Nd} {s:Int} {i k:Nat} {v:Nd} {R:List A} {T:List Nd} (h:BJ fin al w G S s i v R k T) (hk:k<R.length) (hs:(R.getD k default).o=s->∀y,kQ w G (R.getD k default) v.2=(y,true)->False):BJ fin al w G S s i v R (k+1) T:=by
 refine ⟨h.bi,fun a ha ho y hy=>?_⟩
 rw [bY hk] at ha
 rcases zl002.1 ha with ha|ha
 ·exact h.row a ha ho y hy
 ·simp only [zl009] at ha;subst ha;exact (hs ho y hy).elim
theorem BJ.done (hG:∀x,x∈G <-> FS.Good fin al w x) {S:List Nd} {s:Int} {i:Nat} {v:Nd} {R:List A} {T:List Nd} (hat:S.getD i default=v) (hR:R=al.filter fun a=>a.f==v.1) (h0:0<=v.2) (h:BJ fin al w G S s i v R R.length T):BI fin al w S s (i+1) T:=by
 refine ⟨h.bi.sub,fun j hj y hm hg=>?_⟩
 by_cases e:j=i
 ·subst e
  rw [hat] at hm
  obtain ⟨a,ha,hf,ho,hy⟩:=(CP hG (x:=v) (y:=y) (o:=s) h0).1 ⟨hm,hg⟩
  refine h.row a ?_ ho y hy
  rw [ig,hR]
  simp [ha,hf]
 ·exact h.bi.cl j (by omega) y hm hg
theorem BI.done {S:List Nd} {s:Int} {i:Nat} {T:List Nd} (h:BI fin al w S s i T) (hi:S.length<=i) (y:Nd):y∈T <-> By fin al w (·∈S) s y:=by
 refine ⟨h.sub y,fun ⟨x,hx,hm,hg⟩=>?_⟩
 obtain ⟨j,hj,he⟩:=uD hx
 refine h.cl j (by omega) y ?_ hg
 rw [bf,bn hj];simpa [he] using hm
end
end Go.Proofs.Ytlbdmpjnmfmnfaa
end
