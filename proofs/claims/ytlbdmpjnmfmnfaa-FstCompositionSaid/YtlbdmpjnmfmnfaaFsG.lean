import Derived.Test.YtlbdmpjnmfmnfaaFsW
set_option linter.unusedSimpArgs false
set_option linter.unusedVariables false
namespace Go.Proofs.Ytlbdmpjnmfmnfaa
open Go.RowKit Go.HL Go.FS
section
variable {fin:List Bool} {al:List A} {w:List Int} {G:List Nd}
structure LN (fin:List Bool) (al:List A) (w:List Int) (S:List Nd) (i:Nat) (ks:List Int) (V:Int->List Nd):Prop where
 nd:ks.Nodup
 vnd:∀s,(V s).Nodup
 out:∀s,V s≠[] <-> s∈ks
 sub:∀s,∀y∈V s,s ≠ -1/\By fin al w (·∈S) s y
 cl:∀j,j<i->∀s y,s ≠ -1->Mv al w (S.getD j default) s y->FS.Good fin al w y->y∈V s
structure LJ (fin:List Bool) (al:List A) (w:List Int) (G S:List Nd) (i:Nat) (v:Nd) (R:List A) (k:Nat) (ks:List Int) (V:Int->List Nd):Prop where
 ln:LN fin al w S i ks V
 row:∀a∈R.take k,a.o ≠ -1->∀y,iV w G a v.2=(y,true)->y∈V a.o
def KR (V:Int->List Nd) (s:Int) (y:Nd):Int->List Nd:=fun t=>if t=s then ins y (V s) else V t
theorem Tm (V:Int->List Nd) (s:Int) (y:Nd):KR V s y s=ins y (V s):=by simp [KR]
theorem PG {V:Int->List Nd} {s t:Int} {y:Nd} (h:t≠s):KR V s y t=V t:=by simp [KR,h]
theorem mem_upV {V:Int->List Nd} {s t:Int} {y z:Nd}:z∈KR V s y t <-> (t=s/\z=y)\/z∈V t:=by
 unfold KR
 split
 ·rename_i h;subst h;simp [mem_ins]
 ·rename_i h;simp [h]
theorem LN.start {S:List Nd}:LN fin al w S 0 [] (fun _=>[]) :=
 ⟨by simp,fun _=>by simp,fun s=>by simp,fun s y h=>by simp at h,fun j hj=>by omega⟩
theorem LN.begin {S:List Nd} {i:Nat} {v:Nd} {R:List A} {ks:List Int} {V:Int->List Nd} (h:LN fin al w S i ks V):LJ fin al w G S i v R 0 ks V:=⟨h,by simp⟩
theorem LJ.skip {S:List Nd} {i k:Nat} {v:Nd} {R:List A} {ks:List Int} {V:Int->List Nd} (h:LJ fin al w G S i v R k ks V) (hk:k<R.length) (hs:(R.getD k default).o ≠ -1->∀y,iV w G (R.getD k default) v.2=(y,true)->False):LJ fin al w G S i v R (k+1) ks V:=by
 refine ⟨h.ln,fun a ha ho y hy=>?_⟩
 rw [dh hk] at ha
 rcases List.mem_append.1 ha with ha|ha
 ·exact h.row a ha ho y hy
 ·simp only [List.mem_singleton] at ha;subst ha;exact (hs ho y hy).elim
theorem LJ.add (hG:∀x,x∈G <-> FS.Good fin al w x) {S:List Nd} {i k:Nat} {v:Nd} {R:List A} {ks:List Int} {V:Int->List Nd} (hR:R=al.filter fun a=>a.f==v.1) (h0:0<=v.2) (hv:v∈S) (h:LJ fin al w G S i v R k ks V) (hk:k<R.length) {y:Nd} (ho:(R.getD k default).o ≠ -1) (hy:iV w G (R.getD k default) v.2=(y,true)):LJ fin al w G S i v R (k+1) (ins (R.getD k default).o ks) (KR V (R.getD k default).o y):=by
 have hmem:R.getD k default∈al/\(R.getD k default).f=v.1:=by
  have:=mg hk
  generalize R.getD k default=a at this
  rw [hR] at this
  simpa using this
 have hm:=(sJ hG (x:=v) (y:=y) (o:=(R.getD k default).o) h0).2 ⟨_,hmem.1,hmem.2,rfl,hy⟩
 refine ⟨⟨HL.ins_nodup h.ln.nd,fun s=>?_,fun s=>?_,fun s z hz=>?_,fun j hj s z hs hm hg=>mem_upV.2 (.inr (h.ln.cl j hj s z hs hm hg))⟩,fun a ha hoa z hz=>?_⟩
 ·unfold KR;split
  ·exact HL.ins_nodup (h.ln.vnd _)
  ·exact h.ln.vnd s
 ·rw [mem_ins,<- h.ln.out]
  by_cases e:s=(R.getD k default).o
  ·subst e
   rw [Tm]
   refine ⟨fun _=>.inl rfl,fun _ hn=>?_⟩
   have:y∈ins y (V (R.getD k default).o):=mem_ins.2 (.inl rfl)
   rw [hn] at this;cases this
  ·rw [PG e];exact ⟨.inr,fun h=>h.resolve_left e⟩
 ·rcases mem_upV.1 hz with ⟨rfl,rfl⟩|hz
  ·exact ⟨ho,v,hv,hm.1,hm.2⟩
  ·exact h.ln.sub s z hz
 ·rw [dh hk] at ha
  rcases List.mem_append.1 ha with ha|ha
  ·exact mem_upV.2 (.inr (h.row a ha hoa z hz))
  ·simp only [List.mem_singleton] at ha
   subst ha
   rw [hy] at hz
   simp only [Prod.mk.injEq,and_true] at hz
   exact mem_upV.2 (.inl ⟨rfl,hz.symm⟩)
theorem LJ.done (hG:∀x,x∈G <-> FS.Good fin al w x) {S:List Nd} {i:Nat} {R:List A} {ks:List Int} {V:Int->List Nd} (hR:R=al.filter fun a=>a.f==(S.getD i default).1) (h0:0<=(S.getD i default).2) (h:LJ fin al w G S i (S.getD i default) R R.length ks V):LN fin al w S (i+1) ks V:=by
 refine ⟨h.ln.nd,h.ln.vnd,h.ln.out,h.ln.sub,fun j hj s y hs hm hg=>?_⟩
 by_cases e:j=i
 ·subst e
  obtain ⟨a,ha,hf,ho,hy⟩:=(sJ hG (y:=y) (o:=s) h0).1 ⟨hm,hg⟩
  subst ho
  refine h.row a ?_ hs y hy
  rw [List.take_length,hR]
  simp [ha,hf]
 ·exact h.ln.cl j (by omega) s y hs hm hg
theorem LN.done {S:List Nd} {i:Nat} {ks:List Int} {V:Int->List Nd} (h:LN fin al w S i ks V) (hi:S.length<=i) {s:Int} {y:Nd}:y∈V s <-> s ≠ -1/\By fin al w (·∈S) s y:=by
 refine ⟨h.sub s y,fun ⟨hs,x,hx,hm,hg⟩=>?_⟩
 obtain ⟨j,hj,he⟩:=List.getElem_of_mem hx
 refine h.cl j (by omega) s y hs ?_ hg
 rw [List.getD_eq_getElem?_getD,List.getElem?_eq_getElem hj];simpa [he] using hm
theorem LN.key (hk:qH al) {S:List Nd} {i:Nat} {ks:List Int} {V:Int->List Nd} (h:LN fin al w S i ks V) {s:Int} (hs:s∈ks):0<=s/\s<64:=by
 obtain ⟨y,hy⟩:=List.exists_mem_of_ne_nil _ ((h.out s).2 hs)
 obtain ⟨h1,x,_,hm,_⟩:=h.sub s y hy
 obtain ⟨a,ha,rfl⟩:=IM hm
 have:=hk a ha
 omega
theorem LN.keys (hk:qH al) {S:List Nd} {i:Nat} {ks:List Int} {V:Int->List Nd} (h:LN fin al w S i ks V):ks.length<=64:=by
 have:=dX h.nd (m:=(List.range 64).map fun i:Nat=>(i:Int)) fun s hs=>by
  have:=h.key hk hs
  exact List.mem_map.2 ⟨s.toNat,by simp;omega,by omega⟩
 simpa using this
theorem LN.card (hG:∀x,x∈G <-> FS.Good fin al w x) {S:List Nd} {i:Nat} {ks:List Int} {V:Int->List Nd} (h:LN fin al w S i ks V) (s:Int):(V s).length<=G.length :=
 dX (h.vnd s) fun x hx=>by obtain ⟨_,_,_,_,hg⟩:=h.sub s x hx;exact (hG x).2 hg
open Classical in
noncomputable def Dp (fin:List Bool) (al:List A) (w:List Int) (u:List Int) (k:Nat):List (List Int):=((List.range k).map fun s:Nat=>u++[(s:Int)]).filter fun v=>decide (Beg fin al w v)
theorem Oi (u:List Int):Dp fin al w u 64=ext fin al w u:=rfl
open Classical in
theorem GM (u:List Int) (k:Nat):Dp fin al w u (k+1)=if Beg fin al w (u++[(k:Int)]) then Dp fin al w u k++[u++[(k:Int)]] else Dp fin al w u k:=by
 unfold Dp
 rw [List.range_succ,List.map_append,List.filter_append]
 by_cases h:Beg fin al w (u++[(k:Int)])<;>simp [h]
structure Row (fin:List Bool) (al:List A) (w:List Int) (m:Nat) (q:List Int×List Nd):Prop where
 at_:∀x,x∈q.2 <-> At fin al w q.1 x
 len:q.2.length<=2*m
theorem IR {u:List Int} {S:List Nd} (hS:∀x,x∈S <-> At fin al w u x) {i:Nat} {ks:List Int} {V:Int->List Nd} (h:LN fin al w S i ks V) (hi:S.length<=i) {s:Int} (hs:s ≠ -1) (T:List Nd) (hT:∀x,x∈T <-> x∈V s) (y:Nd):Cl fin al w (·∈T) y <-> At fin al w (u++[s]) y:=by
 rw [qx hs]
 have e:(fun x=>x∈T)=By fin al w (At fin al w u) s:=by
  funext x
  have e2:(fun x=>x∈S)=At fin al w u:=funext fun x=>propext (hS x)
  rw [<- e2]
  exact propext ((hT x).trans ((h.done hi).trans ⟨fun h=>h.2,fun h=>⟨hs,h⟩⟩))
 rw [e]
theorem Tv {u:List Int} {S:List Nd} (hS:∀x,x∈S <-> At fin al w u x) {i:Nat} {ks:List Int} {V:Int->List Nd} (h:LN fin al w S i ks V) (hi:S.length<=i) {s:Int} (hs:s ≠ -1):Beg fin al w (u++[s]) <-> V s≠[]:=by
 constructor
 ·rintro ⟨y,hy⟩ hn
  rw [<- IR hS h hi hs (V s) (fun _=>Iff.rfl)] at hy
  rw [hn] at hy
  clear hn
  induction hy with
  | on h=>cases h
  | eps _ _ _ ih=>exact ih
 ·intro hn
  obtain ⟨y,hy⟩:=List.exists_mem_of_ne_nil _ hn
  exact ⟨y,(IR hS h hi hs (V s) (fun _=>Iff.rfl) y).1 (.on hy)⟩
end
end Go.Proofs.Ytlbdmpjnmfmnfaa
