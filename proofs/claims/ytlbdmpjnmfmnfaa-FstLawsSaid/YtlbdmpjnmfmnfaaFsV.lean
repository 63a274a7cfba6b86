import Derived.Test.YtlbdmpjnmfmnfaaHlFi
import Derived.Test.YtlbdmpjnmfmnfaaFsW
section
set_option linter.unusedSimpArgs false
set_option linter.unusedVariables false
namespace Go.HL
open Go.RowKit
def dn0:HV->HV
 | .nils=>.sl 0 []
 | v=>v
def dn1:HV->HV
 | .nils=>.sl 0 []
 | .sl n cs=>.sl n (cs.map dn0)
 | v=>v
section
variable {F:Nat->Prop} {h:Hp} {R:HV->Value->Prop}
theorem IW {vs:List HV} {rvs:List Value} {fs:List Nat} (o:OW F h R vs rvs fs):OW F h R (vs.map dn0) rvs fs:=by
 induction o with
 | nil=>exact .nil
 | @leaf R v rv r rr fs a b c d e f g _ ih =>
  have:dn0 v=v:=by cases v<;>simp [gK] at a<;>rfl
  rw [List.map_cons,this]
  exact .leaf a b c d e f g ih
 | int _ ih=>exact .int ih
 | bool _ ih=>exact .bool ih
 | str _ ih=>exact .str ih
 | nils _ ih=>exact .sl0 ih
 | nilm _ ih=>exact .nilm ih
 | rmap a b c d _ _ ih=>exact .rmap a b c d ih
 | omap a b c _ _ ih=>exact .omap a b c ih
 | oitr a _ ih=>exact .oitr a ih
 | nilp _ ih=>exact .nilp ih
 | nilf _ ih=>exact .nilf ih
 | dead _ ih=>exact .dead ih
 | sl0 _ ih=>exact .sl0 ih
 | sl a b c d e _ _ ih=>exact .sl a b c d e ih
 | osl0 _ ih=>exact .osl0 ih
 | osl a b c d e f g _ _ ih=>exact .osl a b c d e f g ih
 | ptr a b c d _ _ ih=>exact .ptr a b c d ih
 | optr a b _ _ ih=>exact .optr a b ih
 | agg a _ _ ih=>exact .agg a ih
 | tup a _ _ ih=>exact .tup a ih
 | fn a _ _ ih=>exact .fn a ih
theorem Ju {vs:List HV} {rvs:List Value} {fs:List Nat} (o:OW F h R vs rvs fs):OW F h R (vs.map dn1) rvs fs:=by
 induction o with
 | nil=>exact .nil
 | @leaf R v rv r rr fs a b c d e f g _ ih =>
  have:dn1 v=v:=by cases v<;>simp [gK] at a<;>rfl
  rw [List.map_cons,this]
  exact .leaf a b c d e f g ih
 | int _ ih=>exact .int ih
 | bool _ ih=>exact .bool ih
 | str _ ih=>exact .str ih
 | nils _ ih=>exact .sl0 ih
 | nilm _ ih=>exact .nilm ih
 | rmap a b c d _ _ ih=>exact .rmap a b c d ih
 | omap a b c _ _ ih=>exact .omap a b c ih
 | oitr a _ ih=>exact .oitr a ih
 | nilp _ ih=>exact .nilp ih
 | nilf _ ih=>exact .nilf ih
 | dead _ ih=>exact .dead ih
 | sl0 _ ih=>exact .sl0 ih
 | sl a b c d e _ _ ih=>exact .sl a b (by rw [List.length_map];exact c) d (IW e) ih
 | osl0 _ ih=>exact .osl0 ih
 | osl a b c d e f g _ _ ih=>exact .osl a b c d e f g ih
 | ptr a b c d _ _ ih=>exact .ptr a b c d ih
 | optr a b _ _ ih=>exact .optr a b ih
 | agg a _ _ ih=>exact .agg a ih
 | tup a _ _ ih=>exact .tup a ih
 | fn a _ _ ih=>exact .fn a ih
end
theorem HT.arg {P:Program} {f:FuncId} {args args':List HV} {K:HV->Prop} (hw:∀ (F:Nat->Prop) (h:Hp) (rvs:List Value),OW F h eG args' rvs []->OW F h eG args rvs []) (h:HT P f args K):HT P f args' K :=
 ⟨h.1,fun w rargs F hF ho=>h.2 w rargs F hF (hw _ _ _ ho)⟩
end Go.HL
end
section
set_option linter.unusedSimpArgs false
set_option linter.unusedVariables false
namespace Go.HL
open Go.RowKit
theorem TN {P:Program} {C:CallSpec} {all r:List aH} {i:Nat} {k:List HI} {rs:List Nat} {K:HV->Prop} {sl sl' st st':List (Nat×HV)} {nx:Nat} {x:HX} {t:Nat} {v:HV} {cs0 cs:List HV} {us:List Upd} {sd:Prop} {sz fr:Nat} [ok:Ok C k] (hf:nx+stride*i=fr) (hv:ev sl x=v) (hcs:cellsOf v=cs0) (ht:gI (fun j=>aG j st) cs0=(cs,us,sd)) (hs:sd) (hz:cs.length=sz) (hu:nU sl st us=(sl',st'))
  (h:G P C all r (i+1) k rs K ((t,.pref fr [] 0)::sl') ((fr,.optr cs)::st') nx):G P C all (⟨some t,.newv sz x,none⟩::r) i k rs K sl st nx:=by
 subst hf
 refine iw ok.mono ok.plain (v:=.pref (nx+stride*i) [] 0) (us:=us++[.put (nx+stride*i) (.optr cs)]) (side:=sd/\cs.length=sz) rfl (by rw [HOp.map,hv]) ?_ ⟨hs,hz⟩ (by rw [uC,hu];rfl) h
 subst hcs
 simp only [aA]
 rw [ht]
end Go.HL
end
section
set_option linter.unusedSimpArgs false
set_option linter.unusedVariables false
namespace Go.Proofs.Ytlbdmpjnmfmnfaa
open Go.RowKit Go.HL Go.FS
def cd (m:Nat) (x:Nd):Int:=x.1*((m:Int)+1)+x.2
section
variable {n:Nat} {w:List Int} {x y:Nd}
end
structure GB (n:Nat) (w:List Int) (G:List Nd) (gb:List Bool):Prop where
 len:gb.length=n*(w.length+1)
 at_:∀x,Na n w x->gb.getD (cd w.length x).toNat false=decide (x∈G)
theorem fM (l:List Bool):bF (HL.bools l)=[]:=by
 induction l with
 | nil=>rfl
 | cons x l ih=>simpa [HL.bools,bF,HV.deep] using ih
theorem fB (l:List A):bF (recs aC l)=[]:=wV (g:=aC) (fun _=>rfl) l
theorem lN (fin:List Bool) (al:List A):stripL [.sl fin.length (HL.bools fin),.sl al.length (recs aC al)]=[.sl fin.length (HL.bools fin),.sl al.length (recs aC al)]:=by simp [stripL,HV.strip,HL.bools_strip,jf]
end Go.Proofs.Ytlbdmpjnmfmnfaa
end
section
set_option linter.unusedSimpArgs false
set_option linter.unusedVariables false
namespace Go.Proofs.Ytlbdmpjnmfmnfaa
open Go.RowKit Go.HL Go.FS
section
variable {fin:List Bool} {al:List A} {w:List Int}
theorem GB.start {n:Nat} {N:Nat} (h:n*(w.length+1)=N):GB n w [] (List.replicate N false) :=
 ⟨by simp [h],fun x _=>by
  have:(List.replicate N false).getD (cd w.length x).toNat false=false:=by
   rw [List.getD_eq_getElem?_getD,List.getElem?_replicate];split<;>rfl
  rw [this];rfl⟩
structure RI (fin:List Bool) (al:List A) (w:List Int) (i:Nat) (L:List Nd):Prop where
 nd:L.Nodup
 good:∀x∈L,FS.Good fin al w x/\Na fin.length w x
 fin:∀p,isFin fin p->(p,(w.length:Int))∈L
 pre:∀j,j<i->∀a∈al,a.t=(L.getD j default).1->∀x,kL w (L.getD j default) a=some x->x∈L
structure RJ (fin:List Bool) (al:List A) (w:List Int) (i:Nat) (v:Nd) (R:List A) (k:Nat) (L:List Nd):Prop where
 ri:RI fin al w i L
 lt:i<L.length
 at_:L.getD i default=v
 row:∀a∈R.take k,∀x,kL w v a=some x->x∈L
theorem RI.begin {L:List Nd} {i:Nat} {R:List A} (h:RI fin al w i L) (hi:i<L.length):RJ fin al w i (L.getD i default) R 0 L:=⟨h,hi,rfl,by simp⟩
theorem RJ.skip {L:List Nd} {i k:Nat} {v:Nd} {R:List A} (h:RJ fin al w i v R k L) (hk:k<R.length) (hs:∀x,kL w v (R.getD k default)=some x->x∈L):RJ fin al w i v R (k+1) L:=by
 refine ⟨h.ri,h.lt,h.at_,fun a ha=>?_⟩
 rw [dw hk] at ha
 rcases List.mem_append.1 ha with ha|ha
 ·exact h.row a ha
 ·simp only [List.mem_singleton] at ha;subst ha;exact hs
theorem RJ.done {L:List Nd} {i:Nat} {v:Nd} {R:List A} (hR:R=al.filter fun a=>a.t==v.1) (h:RJ fin al w i v R R.length L):RI fin al w (i+1) L:=by
 refine ⟨h.ri.nd,h.ri.good,h.ri.fin,fun j hj a ha hat x hx=>?_⟩
 by_cases e:j=i
 ·subst e
  rw [h.at_] at hat hx
  refine h.row a ?_ x hx
  rw [List.take_length,hR]
  simp [ha,hat]
 ·exact h.ri.pre j (by omega) a ha hat x hx
theorem RI.done {L:List Nd} {i:Nat} (h:RI fin al w i L) (hi:L.length<=i) (x:Nd):x∈L <-> FS.Good fin al w x:=by
 constructor
 ·intro hx;exact (h.good x hx).1
 ·intro hg
  induction hg with
  | fin hf=>exact h.fin _ hf
  | @mv x y o hm _ ih =>
   obtain ⟨a,ha,hat,hp⟩:=(GN (h.good y ih).2).1 ⟨o,hm⟩
   obtain ⟨j,hj,he⟩:=List.getElem_of_mem ih
   have e:L.getD j default=y:=by rw [List.getD_eq_getElem?_getD,List.getElem?_eq_getElem hj];exact he
   exact h.pre j (by omega) a ha (by rw [e];exact hat) x (by rw [e];exact hp)
theorem RI.start {L:List Nd} (h:L=(jS fin fin.length).map fun p=>(p,(w.length:Int))):RI fin al w 0 L:=by
 subst h
 refine ⟨?_,fun x hx=>?_,fun p hp=>List.mem_map.2 ⟨p,mem_finL.2 hp,rfl⟩,fun j hj=>by omega⟩
 ·have h1:(jS fin fin.length).Nodup:=by
   unfold jS
   rw [List.Nodup,List.pairwise_map]
   refine List.Pairwise.filter _ ?_
   exact List.nodup_range.imp fun h e=>h (by omega)
  rw [List.Nodup,List.pairwise_map]
  exact List.Pairwise.imp (fun h e=>h (by simpa using e)) h1
 ·obtain ⟨p,hp,rfl⟩:=List.mem_map.1 hx
  have hf:=mem_finL.1 hp
  exact ⟨.fin hf,hf.1,gZ hf,by simp,by simp⟩
end
def SH (w:List Int) (l:List Nd):List HV:=HL.ints (l.map (cd w.length))
theorem NE (w:List Int) (l:List Nd):gQ (SH w l)=true:=HL.ints_cell _
theorem Lh (w:List Int) (l:List Nd):stripL (SH w l)=SH w l:=HL.ints_strip _
theorem RP (w:List Int) (l:List Nd):win (SH w l) 0 l.length=SH w l:=jc _ (by simp [SH,HL.ints])
theorem Oq (w:List Int) (l:List Nd):win (SH w l) 0 (l.length*1)=SH w l:=jc _ (by simp [SH,HL.ints])
attribute [go_sem] NE Lh RP Oq
end Go.Proofs.Ytlbdmpjnmfmnfaa
end
section
set_option linter.unusedSimpArgs false
set_option linter.unusedVariables false
namespace Go.Proofs.Ytlbdmpjnmfmnfaa
open Go.RowKit Go.HL Go.FS
end Go.Proofs.Ytlbdmpjnmfmnfaa
end
section
set_option linter.unusedSimpArgs false
set_option linter.unusedVariables false
namespace Go.Proofs.Ytlbdmpjnmfmnfaa
open Go.RowKit Go.HL Go.FS
section
variable {fin:List Bool} {al:List A} {w:List Int} {G:List Nd}
structure LN (fin:List Bool) (al:List A) (w:List Int) (S:List Nd) (i:Nat) (ks:List Int) (V:Int->List Nd):Prop where
 nd:ks.Nodup
 vnd:∀s,(V s).Nodup
 out:∀s,V s≠[] <-> s∈ks
 sub:∀s,∀y∈V s,s ≠ -1/\By fin al w (·∈S) s y
 cl:∀j,j<i->∀s y,s ≠ -1->Mv al w (S.getD j default) s y->FS.Good fin al w y->y∈V s
structure LJ (fin:List Bool) (al:List A) (w:List Int) (G S:List Nd) (i:Nat) (v:Nd) (R:List A) (k:Nat) (ks:List Int) (V:Int->List Nd):Prop where
 ln:LN fin al w S i ks V
 row:∀a∈R.take k,a.o ≠ -1->∀y,jI w G a v.2=(y,true)->y∈V a.o
def PT (V:Int->List Nd) (s:Int) (y:Nd):Int->List Nd:=fun t=>if t=s then ins y (V s) else V t
theorem WF (V:Int->List Nd) (s:Int) (y:Nd):PT V s y s=ins y (V s):=by simp [PT]
theorem WO {V:Int->List Nd} {s t:Int} {y:Nd} (h:t≠s):PT V s y t=V t:=by simp [PT,h]
theorem mem_upV {V:Int->List Nd} {s t:Int} {y z:Nd}:z∈PT V s y t <-> (t=s/\z=y)\/z∈V t:=by
 unfold PT
 split
 ·rename_i h;subst h;simp [mem_ins]
 ·rename_i h;simp [h]
theorem LN.start {S:List Nd}:LN fin al w S 0 [] (fun _=>[]) :=
 ⟨by simp,fun _=>by simp,fun s=>by simp,fun s y h=>by simp at h,fun j hj=>by omega⟩
theorem LN.begin {S:List Nd} {i:Nat} {v:Nd} {R:List A} {ks:List Int} {V:Int->List Nd} (h:LN fin al w S i ks V):LJ fin al w G S i v R 0 ks V:=⟨h,by simp⟩
theorem LJ.skip {S:List Nd} {i k:Nat} {v:Nd} {R:List A} {ks:List Int} {V:Int->List Nd} (h:LJ fin al w G S i v R k ks V) (hk:k<R.length) (hs:(R.getD k default).o ≠ -1->∀y,jI w G (R.getD k default) v.2=(y,true)->False):LJ fin al w G S i v R (k+1) ks V:=by
 refine ⟨h.ln,fun a ha ho y hy=>?_⟩
 rw [dw hk] at ha
 rcases List.mem_append.1 ha with ha|ha
 ·exact h.row a ha ho y hy
 ·simp only [List.mem_singleton] at ha;subst ha;exact (hs ho y hy).elim
theorem LJ.add (hG:∀x,x∈G <-> FS.Good fin al w x) {S:List Nd} {i k:Nat} {v:Nd} {R:List A} {ks:List Int} {V:Int->List Nd} (hR:R=al.filter fun a=>a.f==v.1) (h0:0<=v.2) (hv:v∈S) (h:LJ fin al w G S i v R k ks V) (hk:k<R.length) {y:Nd} (ho:(R.getD k default).o ≠ -1) (hy:jI w G (R.getD k default) v.2=(y,true)):LJ fin al w G S i v R (k+1) (ins (R.getD k default).o ks) (PT V (R.getD k default).o y):=by
 have hmem:R.getD k default∈al/\(R.getD k default).f=v.1:=by
  have:=lC hk
  generalize R.getD k default=a at this
  rw [hR] at this
  simpa using this
 have hm:=(vK hG (x:=v) (y:=y) (o:=(R.getD k default).o) h0).2 ⟨_,hmem.1,hmem.2,rfl,hy⟩
 refine ⟨⟨HL.ins_nodup h.ln.nd,fun s=>?_,fun s=>?_,fun s z hz=>?_,fun j hj s z hs hm hg=>mem_upV.2 (.inr (h.ln.cl j hj s z hs hm hg))⟩,fun a ha hoa z hz=>?_⟩
 ·unfold PT;split
  ·exact HL.ins_nodup (h.ln.vnd _)
  ·exact h.ln.vnd s
 ·rw [mem_ins,<- h.ln.out]
  by_cases e:s=(R.getD k default).o
  ·subst e
   rw [WF]
   refine ⟨fun _=>.inl rfl,fun _ hn=>?_⟩
   have:y∈ins y (V (R.getD k default).o):=mem_ins.2 (.inl rfl)
   rw [hn] at this;cases this
  ·rw [WO e];exact ⟨.inr,fun h=>h.resolve_left e⟩
 ·rcases mem_upV.1 hz with ⟨rfl,rfl⟩|hz
  ·exact ⟨ho,v,hv,hm.1,hm.2⟩
  ·exact h.ln.sub s z hz
 ·rw [dw hk] at ha
  rcases List.mem_append.1 ha with ha|ha
  ·exact mem_upV.2 (.inr (h.row a ha hoa z hz))
  ·simp only [List.mem_singleton] at ha
   subst ha
   rw [hy] at hz
   simp only [Prod.mk.injEq,and_true] at hz
   exact mem_upV.2 (.inl ⟨rfl,hz.symm⟩)
theorem LJ.done (hG:∀x,x∈G <-> FS.Good fin al w x) {S:List Nd} {i:Nat} {R:List A} {ks:List Int} {V:Int->List Nd} (hR:R=al.filter fun a=>a.f==(S.getD i default).1) (h0:0<=(S.getD i default).2) (h:LJ fin al w G S i (S.getD i default) R R.length ks V):LN fin al w S (i+1) ks V:=by
 refine ⟨h.ln.nd,h.ln.vnd,h.ln.out,h.ln.sub,fun j hj s y hs hm hg=>?_⟩
 by_cases e:j=i
 ·subst e
  obtain ⟨a,ha,hf,ho,hy⟩:=(vK hG (y:=y) (o:=s) h0).1 ⟨hm,hg⟩
  subst ho
  refine h.row a ?_ hs y hy
  rw [List.take_length,hR]
  simp [ha,hf]
 ·exact h.ln.cl j (by omega) s y hs hm hg
theorem LN.done {S:List Nd} {i:Nat} {ks:List Int} {V:Int->List Nd} (h:LN fin al w S i ks V) (hi:S.length<=i) {s:Int} {y:Nd}:y∈V s <-> s ≠ -1/\By fin al w (·∈S) s y:=by
 refine ⟨h.sub s y,fun ⟨hs,x,hx,hm,hg⟩=>?_⟩
 obtain ⟨j,hj,he⟩:=List.getElem_of_mem hx
 refine h.cl j (by omega) s y hs ?_ hg
 rw [List.getD_eq_getElem?_getD,List.getElem?_eq_getElem hj];simpa [he] using hm
theorem LN.key (hk:uN al) {S:List Nd} {i:Nat} {ks:List Int} {V:Int->List Nd} (h:LN fin al w S i ks V) {s:Int} (hs:s∈ks):0<=s/\s<64:=by
 obtain ⟨y,hy⟩:=List.exists_mem_of_ne_nil _ ((h.out s).2 hs)
 obtain ⟨h1,x,_,hm,_⟩:=h.sub s y hy
 obtain ⟨a,ha,rfl⟩:=NQ hm
 have:=hk a ha
 omega
theorem LN.keys (hk:uN al) {S:List Nd} {i:Nat} {ks:List Int} {V:Int->List Nd} (h:LN fin al w S i ks V):ks.length<=64:=by
 have:=fQ h.nd (m:=(List.range 64).map fun i:Nat=>(i:Int)) fun s hs=>by
  have:=h.key hk hs
  exact List.mem_map.2 ⟨s.toNat,by simp;omega,by omega⟩
 simpa using this
theorem LN.card (hG:∀x,x∈G <-> FS.Good fin al w x) {S:List Nd} {i:Nat} {ks:List Int} {V:Int->List Nd} (h:LN fin al w S i ks V) (s:Int):(V s).length<=G.length :=
 fQ (h.vnd s) fun x hx=>by obtain ⟨_,_,_,_,hg⟩:=h.sub s x hx;exact (hG x).2 hg
open Classical in
noncomputable def GX (fin:List Bool) (al:List A) (w:List Int) (u:List Int) (k:Nat):List (List Int):=((List.range k).map fun s:Nat=>u++[(s:Int)]).filter fun v=>decide (Beg fin al w v)
theorem QK (u:List Int):GX fin al w u 64=ext fin al w u:=rfl
open Classical in
theorem KY (u:List Int) (k:Nat):GX fin al w u (k+1)=if Beg fin al w (u++[(k:Int)]) then GX fin al w u k++[u++[(k:Int)]] else GX fin al w u k:=by
 unfold GX
 rw [List.range_succ,List.map_append,List.filter_append]
 by_cases h:Beg fin al w (u++[(k:Int)])<;>simp [h]
structure Row (fin:List Bool) (al:List A) (w:List Int) (m:Nat) (q:List Int×List Nd):Prop where
 at_:∀x,x∈q.2 <-> At fin al w q.1 x
 len:q.2.length<=2*m
theorem NG {u:List Int} {S:List Nd} (hS:∀x,x∈S <-> At fin al w u x) {i:Nat} {ks:List Int} {V:Int->List Nd} (h:LN fin al w S i ks V) (hi:S.length<=i) {s:Int} (hs:s ≠ -1) (T:List Nd) (hT:∀x,x∈T <-> x∈V s) (y:Nd):Cl fin al w (·∈T) y <-> At fin al w (u++[s]) y:=by
 rw [sZ hs]
 have e:(fun x=>x∈T)=By fin al w (At fin al w u) s:=by
  funext x
  have e2:(fun x=>x∈S)=At fin al w u:=funext fun x=>propext (hS x)
  rw [<- e2]
  exact propext ((hT x).trans ((h.done hi).trans ⟨fun h=>h.2,fun h=>⟨hs,h⟩⟩))
 rw [e]
theorem Vm {u:List Int} {S:List Nd} (hS:∀x,x∈S <-> At fin al w u x) {i:Nat} {ks:List Int} {V:Int->List Nd} (h:LN fin al w S i ks V) (hi:S.length<=i) {s:Int} (hs:s ≠ -1):Beg fin al w (u++[s]) <-> V s≠[]:=by
 constructor
 ·rintro ⟨y,hy⟩ hn
  rw [<- NG hS h hi hs (V s) (fun _=>Iff.rfl)] at hy
  rw [hn] at hy
  clear hn
  induction hy with
  | on h=>cases h
  | eps _ _ _ ih=>exact ih
 ·intro hn
  obtain ⟨y,hy⟩:=List.exists_mem_of_ne_nil _ hn
  exact ⟨y,(NG hS h hi hs (V s) (fun _=>Iff.rfl) y).1 (.on hy)⟩
end
end Go.Proofs.Ytlbdmpjnmfmnfaa
end
section
set_option linter.unusedSimpArgs false
set_option linter.unusedVariables false
namespace Go.Proofs.Ytlbdmpjnmfmnfaa
open Go.RowKit Go.HL Go.FS
section
variable {fin:List Bool} {al:List A} {w:List Int} {G:List Nd}
structure BI (fin:List Bool) (al:List A) (w:List Int) (S:List Nd) (s:Int) (i:Nat) (T:List Nd):Prop where
 sub:∀y∈T,By fin al w (·∈S) s y
 cl:∀j,j<i->∀y,Mv al w (S.getD j default) s y->FS.Good fin al w y->y∈T
structure BJ (fin:List Bool) (al:List A) (w:List Int) (G S:List Nd) (s:Int) (i:Nat) (v:Nd) (R:List A) (k:Nat) (T:List Nd):Prop where
 bi:BI fin al w S s i T
 row:∀a∈R.take k,a.o=s->∀y,jI w G a v.2=(y,true)->y∈T
theorem BI.start {S:List Nd} {s:Int}:BI fin al w S s 0 []:=⟨by simp,fun j hj=>by omega⟩
theorem BI.begin {S:List Nd} {s:Int} {i:Nat} {v:Nd} {R:List A} {T:List Nd} (h:BI fin al w S s i T):BJ fin al w G S s i v R 0 T:=⟨h,by simp⟩
theorem BJ.skip {S:List Nd} {s:Int} {i k:Nat} {v:Nd} {R:List A} {T:List Nd} (h:BJ fin al w G S s i v R k T) (hk:k<R.length) (hs:(R.getD k default).o=s->∀y,jI w G (R.getD k default) v.2=(y,true)->False):BJ fin al w G S s i v R (k+1) T:=by
 refine ⟨h.bi,fun a ha ho y hy=>?_⟩
 rw [dw hk] at ha
 rcases List.mem_append.1 ha with ha|ha
 ·exact h.row a ha ho y hy
 ·simp only [List.mem_singleton] at ha;subst ha;exact (hs ho y hy).elim
theorem BJ.done (hG:∀x,x∈G <-> FS.Good fin al w x) {S:List Nd} {s:Int} {i:Nat} {v:Nd} {R:List A} {T:List Nd} (hat:S.getD i default=v) (hR:R=al.filter fun a=>a.f==v.1) (h0:0<=v.2) (h:BJ fin al w G S s i v R R.length T):BI fin al w S s (i+1) T:=by
 refine ⟨h.bi.sub,fun j hj y hm hg=>?_⟩
 by_cases e:j=i
 ·subst e
  rw [hat] at hm
  obtain ⟨a,ha,hf,ho,hy⟩:=(vK hG (x:=v) (y:=y) (o:=s) h0).1 ⟨hm,hg⟩
  refine h.row a ?_ ho y hy
  rw [List.take_length,hR]
  simp [ha,hf]
 ·exact h.bi.cl j (by omega) y hm hg
theorem BI.done {S:List Nd} {s:Int} {i:Nat} {T:List Nd} (h:BI fin al w S s i T) (hi:S.length<=i) (y:Nd):y∈T <-> By fin al w (·∈S) s y:=by
 refine ⟨h.sub y,fun ⟨x,hx,hm,hg⟩=>?_⟩
 obtain ⟨j,hj,he⟩:=List.getElem_of_mem hx
 refine h.cl j (by omega) y ?_ hg
 rw [List.getD_eq_getElem?_getD,List.getElem?_eq_getElem hj];simpa [he] using hm
end
end Go.Proofs.Ytlbdmpjnmfmnfaa
end
