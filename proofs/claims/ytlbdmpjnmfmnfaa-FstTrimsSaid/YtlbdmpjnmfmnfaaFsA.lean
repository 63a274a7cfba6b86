import Derived.Test.YtlbdmpjnmfmnfaaFt2
import Derived.Test.YtlbdmpjnmfmnfaaFsP
set_option linter.unusedSimpArgs false
set_option linter.unusedVariables false
namespace Go.Proofs.Ytlbdmpjnmfmnfaa
open Go.HL Go.FS
def recs {α:Type} (g:α->List HV) (l:List α):List HV:=l.flatMap g
structure Rec {α:Type} (g:α->List HV) (k:Nat):Prop where
 len:∀x,(g x).length=k
 flat:∀x,cO (g x)=true
 cell:∀x,gX (g x)=true
 strip:∀x,stripL (g x)=g x
section
variable {α:Type} {g:α->List HV} {k:Nat}
theorem nK (r:Rec g k) (l:List α):(recs g l).length=l.length*k:=by
 induction l with
 | nil=>simp [recs]
 | cons x l ih=>simp only [recs,List.flatMap_cons,List.length_append,r.len,List.length_cons] at ih ⊢;rw [ih,Nat.add_mul];omega
theorem GI (r:Rec g k) (l:List α):cO (recs g l)=true:=by
 simp only [cO,recs,List.all_flatMap,List.all_eq_true]
 intro x _ v hv
 exact List.all_eq_true.1 (r.flat x) v hv
theorem yI (r:Rec g k) (l:List α):gX (recs g l)=true:=by
 simp only [gX,recs,List.all_flatMap,List.all_eq_true]
 intro x _ v hv
 exact List.all_eq_true.1 (r.cell x) v hv
theorem x9 (a b:List HV):stripL (a++b)=stripL a++stripL b:=by
 induction a with
 | nil=>rfl
 | cons x a ih=>simp [stripL,ih]
theorem wJ (r:Rec g k) (l:List α):stripL (recs g l)=recs g l:=by
 induction l with
 | nil=>rfl
 | cons x l ih=>simp only [recs,List.flatMap_cons,x9,r.strip] at ih ⊢;rw [ih]
theorem qH (l:List α) (x:α):recs g l++g x=recs g (l++[x]):=by simp [recs]
theorem tq (l m:List α):recs g l++recs g m=recs g (l++m):=by simp [recs]
theorem Gy (r:Rec g k) (l:List α) (i:Nat):(recs g l).drop (i*k)=recs g (l.drop i):=by
 induction l generalizing i with
 | nil=>simp [recs]
 | cons x l ih =>
  cases i with
  | zero=>simp
  | succ i =>
   have:(i+1)*k=k+i*k:=by rw [Nat.add_mul];omega
   simp only [recs,List.flatMap_cons,List.drop_succ_cons] at ih ⊢
   rw [this,<- List.drop_drop,List.drop_left' (r.len x)]
   exact ih i
theorem IJ (r:Rec g k) (l:List α) (i:Nat):(recs g l).take (i*k)=recs g (l.take i):=by
 induction l generalizing i with
 | nil=>simp [recs]
 | cons x l ih =>
  cases i with
  | zero=>simp [recs]
  | succ i =>
   have:(i+1)*k=k+i*k:=by rw [Nat.add_mul];omega
   simp only [recs,List.flatMap_cons,List.take_succ_cons] at ih ⊢
   rw [this,List.take_append,r.len,List.take_of_length_le (by rw [r.len];omega),Nat.add_sub_cancel_left,ih i]
theorem Ha (r:Rec g k) (l:List α) {o n:Nat} (h:o+n<=l.length):win (recs g l) (o*k) (n*k)=recs g ((l.drop o).take n):=by
 have e:((recs g l).drop (o*k)).take (n*k)=recs g ((l.drop o).take n):=by rw [Gy r,IJ r]
 unfold win
 split
 ·rename_i hc
  rw [<- e,hc.1,List.drop_zero,hc.2,List.take_length]
 ·exact e
theorem BM (r:Rec g k) (l:List α) {n:Nat} (h:n=l.length*k):win (recs g l) 0 n=recs g l:=jO _ (by rw [nK r];exact h)
theorem pV [Inhabited α] (r:Rec g k) (l:List α) {i:Nat} (h:i<l.length):win (recs g l) (i*k) k=g (l.getD i default):=by
 have:=Ha r l (o:=i) (n:=1) (by omega)
 rw [Nat.one_mul] at this
 rw [this,List.drop_eq_getElem_cons h,List.take_succ_cons,List.take_zero]
 simp only [recs,List.flatMap_cons,List.flatMap_nil,List.append_nil]
 simp [h]
theorem nT [Inhabited α] (r:Rec g k) (l:List α) {i j:Nat} (h:i<l.length) (hj:j<k):(recs g l).getD (i*k+j) .dead=(g (l.getD i default)).getD j .dead:=by
 rw [<- pV r l h]
 have hl:=nK r l
 have h2:i*k+k<=l.length*k:=by
  have:=Nat.mul_le_mul_right k (show i+1<=l.length by omega)
  rw [Nat.add_mul] at this;omega
 simp only [List.getD_eq_getElem?_getD]
 unfold win
 split
 ·rename_i hc;rw [hc.1,Nat.zero_add]
 ·rw [List.getElem?_take,if_pos hj,List.getElem?_drop]
end
def aC (a:A):List HV:=[.int .i64 a.f,.int .i64 a.i,.int .i64 a.o,.int .i64 a.t]
theorem aR:Rec aC 4:=⟨fun _=>rfl,fun _=>rfl,fun _=>rfl,fun _=>rfl⟩
abbrev Ie (l:List A):List HV:=recs aC l
def iw (l:List A):HV:=.sl l.length (Ie l)
def pC (x:Nd):List HV:=[.int .i64 x.1,.int .i64 x.2]
theorem pR:Rec pC 2:=⟨fun _=>rfl,fun _=>rfl,fun _=>rfl,fun _=>rfl⟩
abbrev su (l:List Nd):List HV:=recs pC l
theorem Jz (l:List A) {i:Nat} (h:i<l.length):win (recs aC l) (i*4) 4=[.int .i64 (l.getD i default).f,.int .i64 (l.getD i default).i,.int .i64 (l.getD i default).o,.int .i64 (l.getD i default).t]:=pV aR l h
theorem MX (l:List Nd) {i:Nat} (h:i<l.length):win (recs pC l) (i*2) 2=[.int .i64 (l.getD i default).1,.int .i64 (l.getD i default).2]:=pV pR l h
theorem LP (l:List Nd) {i:Nat} (h:i<l.length):(recs pC l).getD (i*2+0) .dead=.int .i64 (l.getD i default).1:=nT pR l h (by omega)
theorem NU (l:List Nd) {i:Nat} (h:i<l.length):(recs pC l).getD (i*2) .dead=.int .i64 (l.getD i default).1:=nT pR (j:=0) l h (by omega)
theorem JJ (l:List Nd) {i:Nat} (h:i<l.length):(recs pC l).getD (i*2+1) .dead=.int .i64 (l.getD i default).2:=nT pR l h (by omega)
theorem C9 (l:List A):(recs aC l).length=l.length*4:=nK aR l
theorem Gj (l:List Nd):(recs pC l).length=l.length*2:=nK pR l
theorem Bg (l:List Nd):cO (recs pC l)=true:=GI pR l
theorem Hr (l:List A):gX (recs aC l)=true:=yI aR l
theorem JE (l:List Nd):gX (recs pC l)=true:=yI pR l
theorem jg (l:List A):stripL (recs aC l)=recs aC l:=wJ aR l
theorem um (l:List Nd):stripL (recs pC l)=recs pC l:=wJ pR l
theorem yJ (l:List A) (a b c d:Int):recs aC l++[.int .i64 a,.int .i64 b,.int .i64 c,.int .i64 d]=recs aC (l++[⟨a,b,c,d⟩]):=qH l ⟨a,b,c,d⟩
theorem Jo (l:List Nd) (a b:Int):recs pC l++[.int .i64 a,.int .i64 b]=recs pC (l++[(a,b)]):=qH l (a,b)
theorem Dh (l:List A) {n:Nat} (h:n=l.length*4):win (recs aC l) 0 n=recs aC l:=BM aR l h
theorem Nw (l:List Nd) {n:Nat} (h:n=l.length*2):win (recs pC l) 0 n=recs pC l:=BM pR l h
theorem Le:recs aC []=[]:=rfl
theorem Nl:recs pC []=[]:=rfl
attribute [go_sem] Jz MX LP NU JJ C9 Gj Bg Hr JE yJ Jo Dh Nw jg um Le Nl okV
def fA (fin:List Bool) (al:List A):List HV:=[.sl fin.length (HL.bools fin),iw al]
def fD (ll:List (List A)):List HV:=ll.map iw
def fP (ll:List (List A)):List HV:=ll.map fun l=>.osl 4 l.length (Ie l)
theorem uQ (ll:List (List A)):(fD ll).length=ll.length:=by simp [fD]
theorem qM (ll:List (List A)):(fP ll).length=ll.length:=by simp [fP]
theorem lu (ll:List (List A)):stripL (fP ll)=fD ll:=by
 induction ll with
 | nil=>rfl
 | cons l ll ih=>simp only [fP,List.map_cons,stripL,HV.strip,jg,fD] at ih ⊢;rw [ih];rfl
theorem yw (ll:List (List A)) {i:Nat} (h:i<ll.length):(fD ll).getD i .dead=.sl (ll.getD i []).length (Ie (ll.getD i [])):=by simp [fD,h,iw]
theorem IK (ll:List (List A)) {i:Nat} (h:i<ll.length):(fP ll).getD i .dead=.osl 4 (ll.getD i []).length (Ie (ll.getD i [])):=by simp [fP,h]
theorem yM (ll:List (List A)) (i:Nat) (l:List A) (d:HV) {n:Nat} (hn:n=l.length):((fP ll).set i d).set i (.osl 4 n (Ie l))=fP (ll.set i l):=by subst hn;simp [fP,List.map_set]
def bM (p:A->Int) (n:Nat) (l:List A):List (List A):=(List.range n).map fun i:Nat=>l.filter fun a=>p a==(i:Int)
theorem iL (p:A->Int) (n:Nat) (l:List A):(bM p n l).length=n:=by simp [bM]
theorem xk (p:A->Int) (n:Nat):bM p n []=List.replicate n []:=by
 apply List.ext_getElem?
 intro i
 simp only [bM,List.filter_nil,List.getElem?_map,List.getElem?_range,List.getElem?_replicate]
 split<;>simp_all
theorem kR (p:A->Int) {n i:Nat} (l:List A) (h:i<n):(bM p n l).getD i []=l.filter fun a=>p a==(i:Int):=by simp [bM,h]
theorem xw {p:A->Int} {n i:Nat} {l:List A}:((bM p n l).getD i []).length<=l.length:=by
 by_cases h:i<n
 ·rw [kR p l h];exact List.length_filter_le _ _
 ·have:(bM p n l).getD i []=[]:=by simp [bM,h]
  rw [this];exact Nat.zero_le _
theorem uY {p:A->Int} {n:Nat} {l:List A} {a:A} {j:Nat} (hj:p a=(j:Int)):(bM p n l).set j ((bM p n l).getD j []++[a])=bM p n (l++[a]):=by
 apply List.ext_getElem?
 intro i
 rw [List.getElem?_set]
 by_cases hi:i<n
 ·by_cases e:j=i
  ·subst e
   rw [kR p l hi]
   simp [bM,hi,hj]
  ·have:¬ (j:Int)=(i:Int):=by omega
   simp [bM,hi,e,hj,this]
 ·simp [bM,hi]
  intro e;omega
theorem Oj (n:Nat):(List.replicate n [HV.osl 4 0 []]).flatten=fP (List.replicate n []):=by
 induction n with
 | zero=>rfl
 | succ n ih=>rw [List.replicate_succ,List.flatten_cons,ih];rfl
theorem wM (ll:List (List A)):fJ (fP ll)=true:=by
 have hr:∀l:List A,fJ (Ie l)=true:=fun l=>by
  induction l with
  | nil=>rfl
  | cons a l ih=>simpa [recs,aC,fJ,HV.noRd] using ih
 induction ll with
 | nil=>rfl
 | cons l ll ih=>simp only [fP,List.map_cons,fJ,HV.noRd,hr,Bool.true_and] at ih ⊢;exact ih
theorem Ia (l:List Nd) (p q:Int):x8 (l.map pk) (lg l.length) (.bool false) (.agg [.int .i64 p,.int .i64 q])=(.bool (decide ((p,q)∈l)),decide ((p,q)∈l)):=by
 rw [show HV.agg [.int .i64 p,.int .i64 q]=pk (p,q) from rfl,CP yV];congr
theorem Dv (l:List Nd) (id:Nat) (pa:List Nat) (p q:Int):mr id pa (l.map pk) (lg l.length) (.bool false) (.agg [.int .i64 p,.int .i64 q])=(.bool (decide ((p,q)∈l)),decide ((p,q)∈l)):=by
 rw [show HV.agg [.int .i64 p,.int .i64 q]=pk (p,q) from rfl,Gq yV];congr
theorem uJ (l:List Nd) (kd:KK) (p q:Int):qY ⟨kd,none⟩ (l.map pk) (lg l.length) (.agg [.int .i64 p,.int .i64 q]) (.bool true)=.omap ⟨kd,none⟩ ((ins (p,q) l).map pk) (lg (ins (p,q) l).length):=Lc yV (p,q) l
attribute [go_sem] Ia Dv uJ uQ qM lu yw IK Oj
end Go.Proofs.Ytlbdmpjnmfmnfaa
