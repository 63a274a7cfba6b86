import Derived.Test.YtlbdmpjnmfmnfaaFt2
import Derived.Test.YtlbdmpjnmfmnfaaFsP
set_option linter.unusedSimpArgs false
set_option linter.unusedVariables false
namespace Go.Proofs.Ytlbdmpjnmfmnfaa
open Go.HL Go.FS
def recs {α:Type} (g:α->List HV) (l:List α):List HV:=l.flatMap g
structure Rec {α:Type} (g:α->List HV) (k:Nat):Prop where
 len:∀x,(g x).length=k
 flat:∀x,bV (g x)=true
 cell:∀x,fO (g x)=true
 strip:∀x,stripL (g x)=g x
section
variable {α:Type} {g:α->List HV} {k:Nat}
theorem o6 (r:Rec g k) (l:List α):(recs g l).length=l.length*k:=by
 induction l with
 | nil=>simp [recs]
 | cons x l ih=>simp only [recs,List.flatMap_cons,List.length_append,r.len,List.length_cons] at ih ⊢;rw [ih,Nat.add_mul];omega
theorem Gz (r:Rec g k) (l:List α):bV (recs g l)=true:=by
 simp only [bV,recs,List.all_flatMap,List.all_eq_true]
 intro x _ v hv
 exact List.all_eq_true.1 (r.flat x) v hv
theorem yw (r:Rec g k) (l:List α):fO (recs g l)=true:=by
 simp only [fO,recs,List.all_flatMap,List.all_eq_true]
 intro x _ v hv
 exact List.all_eq_true.1 (r.cell x) v hv
theorem xI (a b:List HV):stripL (a++b)=stripL a++stripL b:=by
 induction a with
 | nil=>rfl
 | cons x a ih=>simp [stripL,ih]
theorem xg (r:Rec g k) (l:List α):stripL (recs g l)=recs g l:=by
 induction l with
 | nil=>rfl
 | cons x l ih=>simp only [recs,List.flatMap_cons,xI,r.strip] at ih ⊢;rw [ih]
theorem pY (l:List α) (x:α):recs g l++g x=recs g (l++[x]):=by simp [recs]
theorem sD (l m:List α):recs g l++recs g m=recs g (l++m):=by simp [recs]
theorem G5 (r:Rec g k) (l:List α) (i:Nat):(recs g l).drop (i*k)=recs g (l.drop i):=by
 induction l generalizing i with
 | nil=>simp [recs]
 | cons x l ih =>
  cases i with
  | zero=>simp
  | succ i =>
   have:(i+1)*k=k+i*k:=by rw [Nat.add_mul];omega
   simp only [recs,List.flatMap_cons,List.drop_succ_cons] at ih ⊢
   rw [this,<- List.drop_drop,List.drop_left' (r.len x)]
   exact ih i
theorem II (r:Rec g k) (l:List α) (i:Nat):(recs g l).take (i*k)=recs g (l.take i):=by
 induction l generalizing i with
 | nil=>simp [recs]
 | cons x l ih =>
  cases i with
  | zero=>simp [recs]
  | succ i =>
   have:(i+1)*k=k+i*k:=by rw [Nat.add_mul];omega
   simp only [recs,List.flatMap_cons,List.take_succ_cons] at ih ⊢
   rw [this,List.take_append,r.len,List.take_of_length_le (by rw [r.len];omega),Nat.add_sub_cancel_left,ih i]
theorem Gw (r:Rec g k) (l:List α) {o n:Nat} (h:o+n<=l.length):win (recs g l) (o*k) (n*k)=recs g ((l.drop o).take n):=by
 have e:((recs g l).drop (o*k)).take (n*k)=recs g ((l.drop o).take n):=by rw [G5 r,II r]
 unfold win
 split
 ·rename_i hc
  rw [<- e,hc.1,List.drop_zero,hc.2,List.take_length]
 ·exact e
theorem BD (r:Rec g k) (l:List α) {n:Nat} (h:n=l.length*k):win (recs g l) 0 n=recs g l:=iJ _ (by rw [o6 r];exact h)
theorem sW [Inhabited α] (r:Rec g k) (l:List α) {i:Nat} (h:i<l.length):win (recs g l) (i*k) k=g (l.getD i default):=by
 have:=Gw r l (o:=i) (n:=1) (by omega)
 rw [Nat.one_mul] at this
 rw [this,List.drop_eq_getElem_cons h,List.take_succ_cons,List.take_zero]
 simp only [recs,List.flatMap_cons,List.flatMap_nil,List.append_nil]
 simp [h]
theorem wJ [Inhabited α] (r:Rec g k) (l:List α) {i j:Nat} (h:i<l.length) (hj:j<k):(recs g l).getD (i*k+j) .dead=(g (l.getD i default)).getD j .dead:=by
 rw [<- sW r l h]
 have hl:=o6 r l
 have h2:i*k+k<=l.length*k:=by
  have:=Nat.mul_le_mul_right k (show i+1<=l.length by omega)
  rw [Nat.add_mul] at this;omega
 simp only [List.getD_eq_getElem?_getD]
 unfold win
 split
 ·rename_i hc;rw [hc.1,Nat.zero_add]
 ·rw [List.getElem?_take,if_pos hj,List.getElem?_drop]
end
def aC (a:A):List HV:=[.int .i64 a.f,.int .i64 a.i,.int .i64 a.o,.int .i64 a.t]
theorem aR:Rec aC 4:=⟨fun _=>rfl,fun _=>rfl,fun _=>rfl,fun _=>rfl⟩
abbrev Iu (l:List A):List HV:=recs aC l
def ji (l:List A):HV:=.sl l.length (Iu l)
def pC (x:Nd):List HV:=[.int .i64 x.1,.int .i64 x.2]
theorem pR:Rec pC 2:=⟨fun _=>rfl,fun _=>rfl,fun _=>rfl,fun _=>rfl⟩
abbrev rG (l:List Nd):List HV:=recs pC l
theorem J6 (l:List A) {i:Nat} (h:i<l.length):win (recs aC l) (i*4) 4=[.int .i64 (l.getD i default).f,.int .i64 (l.getD i default).i,.int .i64 (l.getD i default).o,.int .i64 (l.getD i default).t]:=sW aR l h
theorem NF (l:List Nd) {i:Nat} (h:i<l.length):win (recs pC l) (i*2) 2=[.int .i64 (l.getD i default).1,.int .i64 (l.getD i default).2]:=sW pR l h
theorem JE (l:List Nd) {i:Nat} (h:i<l.length):(recs pC l).getD (i*2+0) .dead=.int .i64 (l.getD i default).1:=wJ pR l h (by omega)
theorem NH (l:List Nd) {i:Nat} (h:i<l.length):(recs pC l).getD (i*2) .dead=.int .i64 (l.getD i default).1:=wJ pR (j:=0) l h (by omega)
theorem JF (l:List Nd) {i:Nat} (h:i<l.length):(recs pC l).getD (i*2+1) .dead=.int .i64 (l.getD i default).2:=wJ pR l h (by omega)
theorem BQ (l:List A):(recs aC l).length=l.length*4:=o6 aR l
theorem Ff (l:List Nd):(recs pC l).length=l.length*2:=o6 pR l
theorem BG (l:List Nd):bV (recs pC l)=true:=Gz pR l
theorem Hg (l:List A):fO (recs aC l)=true:=yw aR l
theorem Lm (l:List Nd):fO (recs pC l)=true:=yw pR l
theorem jO (l:List A):stripL (recs aC l)=recs aC l:=xg aR l
theorem tK (l:List Nd):stripL (recs pC l)=recs pC l:=xg pR l
theorem yP (l:List A) (a b c d:Int):recs aC l++[.int .i64 a,.int .i64 b,.int .i64 c,.int .i64 d]=recs aC (l++[⟨a,b,c,d⟩]):=pY l ⟨a,b,c,d⟩
theorem KP (l:List Nd) (a b:Int):recs pC l++[.int .i64 a,.int .i64 b]=recs pC (l++[(a,b)]):=pY l (a,b)
theorem BH (l:List A) {n:Nat} (h:n=l.length*4):win (recs aC l) 0 n=recs aC l:=BD aR l h
theorem Oj (l:List Nd) {n:Nat} (h:n=l.length*2):win (recs pC l) 0 n=recs pC l:=BD pR l h
theorem Lp:recs aC []=[]:=rfl
theorem Mc:recs pC []=[]:=rfl
attribute [go_sem] J6 NF JE NH JF BQ Ff BG Hg Lm yP KP BH Oj jO tK Lp Mc okV
def gX (fin:List Bool) (al:List A):List HV:=[.sl fin.length (HL.bools fin),ji al]
def dW (ll:List (List A)):List HV:=ll.map ji
def fA (ll:List (List A)):List HV:=ll.map fun l=>.osl 4 l.length (Iu l)
theorem uf (ll:List (List A)):(dW ll).length=ll.length:=by simp [dW]
theorem qA (ll:List (List A)):(fA ll).length=ll.length:=by simp [fA]
theorem kD (ll:List (List A)):stripL (fA ll)=dW ll:=by
 induction ll with
 | nil=>rfl
 | cons l ll ih=>simp only [fA,List.map_cons,stripL,HV.strip,jO,dW] at ih ⊢;rw [ih];rfl
theorem yc (ll:List (List A)) {i:Nat} (h:i<ll.length):(dW ll).getD i .dead=.sl (ll.getD i []).length (Iu (ll.getD i [])):=by simp [dW,h,ji]
theorem IE (ll:List (List A)) {i:Nat} (h:i<ll.length):(fA ll).getD i .dead=.osl 4 (ll.getD i []).length (Iu (ll.getD i [])):=by simp [fA,h]
theorem yF (ll:List (List A)) (i:Nat) (l:List A) (d:HV) {n:Nat} (hn:n=l.length):((fA ll).set i d).set i (.osl 4 n (Iu l))=fA (ll.set i l):=by subst hn;simp [fA,List.map_set]
def bD (p:A->Int) (n:Nat) (l:List A):List (List A):=(List.range n).map fun i:Nat=>l.filter fun a=>p a==(i:Int)
theorem gU (p:A->Int) (n:Nat) (l:List A):(bD p n l).length=n:=by simp [bD]
theorem wP (p:A->Int) (n:Nat):bD p n []=List.replicate n []:=by
 apply List.ext_getElem?
 intro i
 simp only [bD,List.filter_nil,List.getElem?_map,List.getElem?_range,List.getElem?_replicate]
 split<;>simp_all
theorem jU (p:A->Int) {n i:Nat} (l:List A) (h:i<n):(bD p n l).getD i []=l.filter fun a=>p a==(i:Int):=by simp [bD,h]
theorem vY {p:A->Int} {n i:Nat} {l:List A}:((bD p n l).getD i []).length<=l.length:=by
 by_cases h:i<n
 ·rw [jU p l h];exact List.length_filter_le _ _
 ·have:(bD p n l).getD i []=[]:=by simp [bD,h]
  rw [this];exact Nat.zero_le _
theorem uH {p:A->Int} {n:Nat} {l:List A} {a:A} {j:Nat} (hj:p a=(j:Int)):(bD p n l).set j ((bD p n l).getD j []++[a])=bD p n (l++[a]):=by
 apply List.ext_getElem?
 intro i
 rw [List.getElem?_set]
 by_cases hi:i<n
 ·by_cases e:j=i
  ·subst e
   rw [jU p l hi]
   simp [bD,hi,hj]
  ·have:¬ (j:Int)=(i:Int):=by omega
   simp [bD,hi,e,hj,this]
 ·simp [bD,hi]
  intro e;omega
theorem NP (n:Nat):(List.replicate n [HV.osl 4 0 []]).flatten=fA (List.replicate n []):=by
 induction n with
 | zero=>rfl
 | succ n ih=>rw [List.replicate_succ,List.flatten_cons,ih];rfl
theorem wW (ll:List (List A)):eu (fA ll)=true:=by
 have hr:∀l:List A,eu (Iu l)=true:=fun l=>by
  induction l with
  | nil=>rfl
  | cons a l ih=>simpa [recs,aC,eu,HV.noRd] using ih
 induction ll with
 | nil=>rfl
 | cons l ll ih=>simp only [fA,List.map_cons,eu,HV.noRd,hr,Bool.true_and] at ih ⊢;exact ih
theorem Iq (l:List Nd) (p q:Int):xO (l.map pk) (jV l.length) (.bool false) (.agg [.int .i64 p,.int .i64 q])=(.bool (decide ((p,q)∈l)),decide ((p,q)∈l)):=by
 rw [show HV.agg [.int .i64 p,.int .i64 q]=pk (p,q) from rfl,Bv yx];congr
theorem D5 (l:List Nd) (id:Nat) (pa:List Nat) (p q:Int):lu id pa (l.map pk) (jV l.length) (.bool false) (.agg [.int .i64 p,.int .i64 q])=(.bool (decide ((p,q)∈l)),decide ((p,q)∈l)):=by
 rw [show HV.agg [.int .i64 p,.int .i64 q]=pk (p,q) from rfl,H5 yx];congr
theorem tV (l:List Nd) (kd:KK) (p q:Int):qF ⟨kd,none⟩ (l.map pk) (jV l.length) (.agg [.int .i64 p,.int .i64 q]) (.bool true)=.omap ⟨kd,none⟩ ((ins (p,q) l).map pk) (jV (ins (p,q) l).length):=Jl yx (p,q) l
attribute [go_sem] Iq D5 tV uf qA kD yc IE NP
end Go.Proofs.Ytlbdmpjnmfmnfaa
