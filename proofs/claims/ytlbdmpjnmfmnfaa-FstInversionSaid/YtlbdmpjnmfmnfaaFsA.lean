import Derived.Test.YtlbdmpjnmfmnfaaFt2
import Derived.Test.YtlbdmpjnmfmnfaaFsP
set_option linter.unusedSimpArgs false
set_option linter.unusedVariables false
namespace Go.Proofs.Ytlbdmpjnmfmnfaa
open Go.HL Go.FS
def recs {α:Type} (g:α->List HV) (l:List α):List HV:=l.flatMap g
structure Rec {α:Type} (g:α->List HV) (k:Nat):Prop where
 len:∀x,(g x).length=k
 flat:∀x,bJ (g x)=true
 cell:∀x,fQ (g x)=true
 strip:∀x,stripL (g x)=g x
section
variable {α:Type} {g:α->List HV} {k:Nat}
theorem oh (r:Rec g k) (l:List α):(recs g l).length=l.length*k:=by
 induction l with
 | nil=>simp [recs]
 | cons x l ih=>simp only [recs,List.flatMap_cons,List.length_append,r.len,List.length_cons] at ih ⊢;rw [ih,Nat.add_mul];omega
theorem Ht (r:Rec g k) (l:List α):bJ (recs g l)=true:=by
 simp only [bJ,recs,List.all_flatMap,List.all_eq_true]
 intro x _ v hv
 exact List.all_eq_true.1 (r.flat x) v hv
theorem yc (r:Rec g k) (l:List α):fQ (recs g l)=true:=by
 simp only [fQ,recs,List.all_flatMap,List.all_eq_true]
 intro x _ v hv
 exact List.all_eq_true.1 (r.cell x) v hv
theorem xh (a b:List HV):stripL (a++b)=stripL a++stripL b:=by
 induction a with
 | nil=>rfl
 | cons x a ih=>simp [stripL,ih]
theorem vK (r:Rec g k) (l:List α):stripL (recs g l)=recs g l:=by
 induction l with
 | nil=>rfl
 | cons x l ih=>simp only [recs,List.flatMap_cons,xh,r.strip] at ih ⊢;rw [ih]
theorem qh (l:List α) (x:α):recs g l++g x=recs g (l++[x]):=by simp [recs]
theorem rU (l m:List α):recs g l++recs g m=recs g (l++m):=by simp [recs]
theorem Gm (r:Rec g k) (l:List α) (i:Nat):(recs g l).drop (i*k)=recs g (l.drop i):=by
 induction l generalizing i with
 | nil=>simp [recs]
 | cons x l ih =>
  cases i with
  | zero=>simp
  | succ i =>
   have:(i+1)*k=k+i*k:=by rw [Nat.add_mul];omega
   simp only [recs,List.flatMap_cons,List.drop_succ_cons] at ih ⊢
   rw [this,<- List.drop_drop,List.drop_left' (r.len x)]
   exact ih i
theorem GR (r:Rec g k) (l:List α) (i:Nat):(recs g l).take (i*k)=recs g (l.take i):=by
 induction l generalizing i with
 | nil=>simp [recs]
 | cons x l ih =>
  cases i with
  | zero=>simp [recs]
  | succ i =>
   have:(i+1)*k=k+i*k:=by rw [Nat.add_mul];omega
   simp only [recs,List.flatMap_cons,List.take_succ_cons] at ih ⊢
   rw [this,List.take_append,r.len,List.take_of_length_le (by rw [r.len];omega),Nat.add_sub_cancel_left,ih i]
theorem Hf (r:Rec g k) (l:List α) {o n:Nat} (h:o+n<=l.length):win (recs g l) (o*k) (n*k)=recs g ((l.drop o).take n):=by
 have e:((recs g l).drop (o*k)).take (n*k)=recs g ((l.drop o).take n):=by rw [Gm r,GR r]
 unfold win
 split
 ·rename_i hc
  rw [<- e,hc.1,List.drop_zero,hc.2,List.take_length]
 ·exact e
theorem BF (r:Rec g k) (l:List α) {n:Nat} (h:n=l.length*k):win (recs g l) 0 n=recs g l:=jd _ (by rw [oh r];exact h)
theorem rC [Inhabited α] (r:Rec g k) (l:List α) {i:Nat} (h:i<l.length):win (recs g l) (i*k) k=g (l.getD i default):=by
 have:=Hf r l (o:=i) (n:=1) (by omega)
 rw [Nat.one_mul] at this
 rw [this,List.drop_eq_getElem_cons h,List.take_succ_cons,List.take_zero]
 simp only [recs,List.flatMap_cons,List.flatMap_nil,List.append_nil]
 simp [h]
theorem vU [Inhabited α] (r:Rec g k) (l:List α) {i j:Nat} (h:i<l.length) (hj:j<k):(recs g l).getD (i*k+j) .dead=(g (l.getD i default)).getD j .dead:=by
 rw [<- rC r l h]
 have hl:=oh r l
 have h2:i*k+k<=l.length*k:=by
  have:=Nat.mul_le_mul_right k (show i+1<=l.length by omega)
  rw [Nat.add_mul] at this;omega
 simp only [List.getD_eq_getElem?_getD]
 unfold win
 split
 ·rename_i hc;rw [hc.1,Nat.zero_add]
 ·rw [List.getElem?_take,if_pos hj,List.getElem?_drop]
end
def aC (a:A):List HV:=[.int .i64 a.f,.int .i64 a.i,.int .i64 a.o,.int .i64 a.t]
theorem aR:Rec aC 4:=⟨fun _=>rfl,fun _=>rfl,fun _=>rfl,fun _=>rfl⟩
abbrev FP (l:List A):List HV:=recs aC l
def jC (l:List A):HV:=.sl l.length (FP l)
def pC (x:Nd):List HV:=[.int .i64 x.1,.int .i64 x.2]
theorem pR:Rec pC 2:=⟨fun _=>rfl,fun _=>rfl,fun _=>rfl,fun _=>rfl⟩
abbrev qX (l:List Nd):List HV:=recs pC l
theorem J8 (l:List A) {i:Nat} (h:i<l.length):win (recs aC l) (i*4) 4=[.int .i64 (l.getD i default).f,.int .i64 (l.getD i default).i,.int .i64 (l.getD i default).o,.int .i64 (l.getD i default).t]:=rC aR l h
theorem Ny (l:List Nd) {i:Nat} (h:i<l.length):win (recs pC l) (i*2) 2=[.int .i64 (l.getD i default).1,.int .i64 (l.getD i default).2]:=rC pR l h
theorem JM (l:List Nd) {i:Nat} (h:i<l.length):(recs pC l).getD (i*2+0) .dead=.int .i64 (l.getD i default).1:=vU pR l h (by omega)
theorem KQ (l:List Nd) {i:Nat} (h:i<l.length):(recs pC l).getD (i*2) .dead=.int .i64 (l.getD i default).1:=vU pR (j:=0) l h (by omega)
theorem JH (l:List Nd) {i:Nat} (h:i<l.length):(recs pC l).getD (i*2+1) .dead=.int .i64 (l.getD i default).2:=vU pR l h (by omega)
theorem A8 (l:List A):(recs aC l).length=l.length*4:=oh aR l
theorem En (l:List Nd):(recs pC l).length=l.length*2:=oh pR l
theorem zG (l:List Nd):bJ (recs pC l)=true:=Ht pR l
theorem Gx (l:List A):fQ (recs aC l)=true:=yc aR l
theorem Jo (l:List Nd):fQ (recs pC l)=true:=yc pR l
theorem jS (l:List A):stripL (recs aC l)=recs aC l:=vK aR l
theorem uj (l:List Nd):stripL (recs pC l)=recs pC l:=vK pR l
theorem xW (l:List A) (a b c d:Int):recs aC l++[.int .i64 a,.int .i64 b,.int .i64 c,.int .i64 d]=recs aC (l++[⟨a,b,c,d⟩]):=qh l ⟨a,b,c,d⟩
theorem Ib (l:List Nd) (a b:Int):recs pC l++[.int .i64 a,.int .i64 b]=recs pC (l++[(a,b)]):=qh l (a,b)
theorem Aj (l:List A) {n:Nat} (h:n=l.length*4):win (recs aC l) 0 n=recs aC l:=BF aR l h
theorem NC (l:List Nd) {n:Nat} (h:n=l.length*2):win (recs pC l) 0 n=recs pC l:=BF pR l h
theorem Jd:recs aC []=[]:=rfl
theorem MJ:recs pC []=[]:=rfl
attribute [go_sem] J8 Ny JM KQ JH A8 En zG Gx Jo xW Ib Aj NC jS uj Jd MJ okV
def gQ (fin:List Bool) (al:List A):List HV:=[.sl fin.length (HL.bools fin),jC al]
def dV (ll:List (List A)):List HV:=ll.map jC
def eG (ll:List (List A)):List HV:=ll.map fun l=>.osl 4 l.length (FP l)
theorem tC (ll:List (List A)):(dV ll).length=ll.length:=by simp [dV]
theorem pX (ll:List (List A)):(eG ll).length=ll.length:=by simp [eG]
theorem kH (ll:List (List A)):stripL (eG ll)=dV ll:=by
 induction ll with
 | nil=>rfl
 | cons l ll ih=>simp only [eG,List.map_cons,stripL,HV.strip,jS,dV] at ih ⊢;rw [ih];rfl
theorem xX (ll:List (List A)) {i:Nat} (h:i<ll.length):(dV ll).getD i .dead=.sl (ll.getD i []).length (FP (ll.getD i [])):=by simp [dV,h,jC]
theorem GI (ll:List (List A)) {i:Nat} (h:i<ll.length):(eG ll).getD i .dead=.osl 4 (ll.getD i []).length (FP (ll.getD i [])):=by simp [eG,h]
theorem xN (ll:List (List A)) (i:Nat) (l:List A) (d:HV) {n:Nat} (hn:n=l.length):((eG ll).set i d).set i (.osl 4 n (FP l))=eG (ll.set i l):=by subst hn;simp [eG,List.map_set]
def bz (p:A->Int) (n:Nat) (l:List A):List (List A):=(List.range n).map fun i:Nat=>l.filter fun a=>p a==(i:Int)
theorem gB (p:A->Int) (n:Nat) (l:List A):(bz p n l).length=n:=by simp [bz]
theorem wu (p:A->Int) (n:Nat):bz p n []=List.replicate n []:=by
 apply List.ext_getElem?
 intro i
 simp only [bz,List.filter_nil,List.getElem?_map,List.getElem?_range,List.getElem?_replicate]
 split<;>simp_all
theorem jQ (p:A->Int) {n i:Nat} (l:List A) (h:i<n):(bz p n l).getD i []=l.filter fun a=>p a==(i:Int):=by simp [bz,h]
theorem vN {p:A->Int} {n i:Nat} {l:List A}:((bz p n l).getD i []).length<=l.length:=by
 by_cases h:i<n
 ·rw [jQ p l h];exact List.length_filter_le _ _
 ·have:(bz p n l).getD i []=[]:=by simp [bz,h]
  rw [this];exact Nat.zero_le _
theorem ul {p:A->Int} {n:Nat} {l:List A} {a:A} {j:Nat} (hj:p a=(j:Int)):(bz p n l).set j ((bz p n l).getD j []++[a])=bz p n (l++[a]):=by
 apply List.ext_getElem?
 intro i
 rw [List.getElem?_set]
 by_cases hi:i<n
 ·by_cases e:j=i
  ·subst e
   rw [jQ p l hi]
   simp [bz,hi,hj]
  ·have:¬ (j:Int)=(i:Int):=by omega
   simp [bz,hi,e,hj,this]
 ·simp [bz,hi]
  intro e;omega
theorem MC (n:Nat):(List.replicate n [HV.osl 4 0 []]).flatten=eG (List.replicate n []):=by
 induction n with
 | zero=>rfl
 | succ n ih=>rw [List.replicate_succ,List.flatten_cons,ih];rfl
theorem vw (ll:List (List A)):dY (eG ll)=true:=by
 have hr:∀l:List A,dY (FP l)=true:=fun l=>by
  induction l with
  | nil=>rfl
  | cons a l ih=>simpa [recs,aC,dY,HV.noRd] using ih
 induction ll with
 | nil=>rfl
 | cons l ll ih=>simp only [eG,List.map_cons,dY,HV.noRd,hr,Bool.true_and] at ih ⊢;exact ih
theorem Gs (l:List Nd) (p q:Int):xm (l.map pk) (jU l.length) (.bool false) (.agg [.int .i64 p,.int .i64 q])=(.bool (decide ((p,q)∈l)),decide ((p,q)∈l)):=by
 rw [show HV.agg [.int .i64 p,.int .i64 q]=pk (p,q) from rfl,Ad yz];congr
theorem DC (l:List Nd) (id:Nat) (pa:List Nat) (p q:Int):lh id pa (l.map pk) (jU l.length) (.bool false) (.agg [.int .i64 p,.int .i64 q])=(.bool (decide ((p,q)∈l)),decide ((p,q)∈l)):=by
 rw [show HV.agg [.int .i64 p,.int .i64 q]=pk (p,q) from rfl,FQ yz];congr
theorem sO (l:List Nd) (kd:KK) (p q:Int):qx ⟨kd,none⟩ (l.map pk) (jU l.length) (.agg [.int .i64 p,.int .i64 q]) (.bool true)=.omap ⟨kd,none⟩ ((ins (p,q) l).map pk) (jU (ins (p,q) l).length):=JL yz (p,q) l
attribute [go_sem] Gs DC sO tC pX kH xX GI MC
end Go.Proofs.Ytlbdmpjnmfmnfaa
