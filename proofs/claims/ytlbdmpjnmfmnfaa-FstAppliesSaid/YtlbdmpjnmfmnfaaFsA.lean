import Derived.Test.YtlbdmpjnmfmnfaaFt2
import Derived.Test.YtlbdmpjnmfmnfaaFsP
set_option linter.unusedSimpArgs false
set_option linter.unusedVariables false
namespace Go.Proofs.Ytlbdmpjnmfmnfaa
open Go.HL Go.FS
def recs {α:Type} (g:α->List HV) (l:List α):List HV:=l.flatMap g
structure Rec {α:Type} (g:α->List HV) (k:Nat):Prop where
 len:∀x,(g x).length=k
 flat:∀x,dC (g x)=true
 cell:∀x,iq (g x)=true
 strip:∀x,stripL (g x)=g x
section
variable {α:Type} {g:α->List HV} {k:Nat}
theorem nS (r:Rec g k) (l:List α):(recs g l).length=l.length*k:=by
 induction l with
 | nil=>simp [recs]
 | cons x l ih=>simp only [recs,List.flatMap_cons,List.length_append,r.len,List.length_cons] at ih ⊢;rw [ih,Nat.add_mul];omega
theorem Iq (r:Rec g k) (l:List α):dC (recs g l)=true:=by
 simp only [dC,recs,List.all_flatMap,List.all_eq_true]
 intro x _ v hv
 exact List.all_eq_true.1 (r.flat x) v hv
theorem yJ (r:Rec g k) (l:List α):iq (recs g l)=true:=by
 simp only [iq,recs,List.all_flatMap,List.all_eq_true]
 intro x _ v hv
 exact List.all_eq_true.1 (r.cell x) v hv
theorem yc (a b:List HV):stripL (a++b)=stripL a++stripL b:=by
 induction a with
 | nil=>rfl
 | cons x a ih=>simp [stripL,ih]
theorem xy (r:Rec g k) (l:List α):stripL (recs g l)=recs g l:=by
 induction l with
 | nil=>rfl
 | cons x l ih=>simp only [recs,List.flatMap_cons,yc,r.strip] at ih ⊢;rw [ih]
theorem qR (l:List α) (x:α):recs g l++g x=recs g (l++[x]):=by simp [recs]
theorem sQ (l m:List α):recs g l++recs g m=recs g (l++m):=by simp [recs]
theorem IM (r:Rec g k) (l:List α) (i:Nat):(recs g l).drop (i*k)=recs g (l.drop i):=by
 induction l generalizing i with
 | nil=>simp [recs]
 | cons x l ih =>
  cases i with
  | zero=>simp
  | succ i =>
   have:(i+1)*k=k+i*k:=by rw [Nat.add_mul];omega
   simp only [recs,List.flatMap_cons,List.drop_succ_cons] at ih ⊢
   rw [this,<- List.drop_drop,List.drop_left' (r.len x)]
   exact ih i
theorem Ij (r:Rec g k) (l:List α) (i:Nat):(recs g l).take (i*k)=recs g (l.take i):=by
 induction l generalizing i with
 | nil=>simp [recs]
 | cons x l ih =>
  cases i with
  | zero=>simp [recs]
  | succ i =>
   have:(i+1)*k=k+i*k:=by rw [Nat.add_mul];omega
   simp only [recs,List.flatMap_cons,List.take_succ_cons] at ih ⊢
   rw [this,List.take_append,r.len,List.take_of_length_le (by rw [r.len];omega),Nat.add_sub_cancel_left,ih i]
theorem Hf (r:Rec g k) (l:List α) {o n:Nat} (h:o+n<=l.length):win (recs g l) (o*k) (n*k)=recs g ((l.drop o).take n):=by
 have e:((recs g l).drop (o*k)).take (n*k)=recs g ((l.drop o).take n):=by rw [IM r,Ij r]
 unfold win
 split
 ·rename_i hc
  rw [<- e,hc.1,List.drop_zero,hc.2,List.take_length]
 ·exact e
theorem BO (r:Rec g k) (l:List α) {n:Nat} (h:n=l.length*k):win (recs g l) 0 n=recs g l:=jc _ (by rw [nS r];exact h)
theorem qE [Inhabited α] (r:Rec g k) (l:List α) {i:Nat} (h:i<l.length):win (recs g l) (i*k) k=g (l.getD i default):=by
 have:=Hf r l (o:=i) (n:=1) (by omega)
 rw [Nat.one_mul] at this
 rw [this,List.drop_eq_getElem_cons h,List.take_succ_cons,List.take_zero]
 simp only [recs,List.flatMap_cons,List.flatMap_nil,List.append_nil]
 simp [h]
theorem mF [Inhabited α] (r:Rec g k) (l:List α) {i j:Nat} (h:i<l.length) (hj:j<k):(recs g l).getD (i*k+j) .dead=(g (l.getD i default)).getD j .dead:=by
 rw [<- qE r l h]
 have hl:=nS r l
 have h2:i*k+k<=l.length*k:=by
  have:=Nat.mul_le_mul_right k (show i+1<=l.length by omega)
  rw [Nat.add_mul] at this;omega
 simp only [List.getD_eq_getElem?_getD]
 unfold win
 split
 ·rename_i hc;rw [hc.1,Nat.zero_add]
 ·rw [List.getElem?_take,if_pos hj,List.getElem?_drop]
end
def aC (a:A):List HV:=[.int .i64 a.f,.int .i64 a.i,.int .i64 a.o,.int .i64 a.t]
theorem aR:Rec aC 4:=⟨fun _=>rfl,fun _=>rfl,fun _=>rfl,fun _=>rfl⟩
abbrev Ia (l:List A):List HV:=recs aC l
def gX (l:List A):HV:=.sl l.length (Ia l)
def pC (x:Nd):List HV:=[.int .i64 x.1,.int .i64 x.2]
theorem pR:Rec pC 2:=⟨fun _=>rfl,fun _=>rfl,fun _=>rfl,fun _=>rfl⟩
abbrev sO (l:List Nd):List HV:=recs pC l
theorem Jm (l:List A) {i:Nat} (h:i<l.length):win (recs aC l) (i*4) 4=[.int .i64 (l.getD i default).f,.int .i64 (l.getD i default).i,.int .i64 (l.getD i default).o,.int .i64 (l.getD i default).t]:=qE aR l h
theorem Pn (l:List Nd) {i:Nat} (h:i<l.length):win (recs pC l) (i*2) 2=[.int .i64 (l.getD i default).1,.int .i64 (l.getD i default).2]:=qE pR l h
theorem J8 (l:List Nd) {i:Nat} (h:i<l.length):(recs pC l).getD (i*2+0) .dead=.int .i64 (l.getD i default).1:=mF pR l h (by omega)
theorem Oq (l:List Nd) {i:Nat} (h:i<l.length):(recs pC l).getD (i*2) .dead=.int .i64 (l.getD i default).1:=mF pR (j:=0) l h (by omega)
theorem KO (l:List Nd) {i:Nat} (h:i<l.length):(recs pC l).getD (i*2+1) .dead=.int .i64 (l.getD i default).2:=mF pR l h (by omega)
theorem AQ (l:List A):(recs aC l).length=l.length*4:=nS aR l
theorem FC (l:List Nd):(recs pC l).length=l.length*2:=nS pR l
theorem BK (l:List Nd):dC (recs pC l)=true:=Iq pR l
theorem Ie (l:List A):iq (recs aC l)=true:=yJ aR l
theorem LV (l:List Nd):iq (recs pC l)=true:=yJ pR l
theorem jg (l:List A):stripL (recs aC l)=recs aC l:=xy aR l
theorem uN (l:List Nd):stripL (recs pC l)=recs pC l:=xy pR l
theorem yS (l:List A) (a b c d:Int):recs aC l++[.int .i64 a,.int .i64 b,.int .i64 c,.int .i64 d]=recs aC (l++[⟨a,b,c,d⟩]):=qR l ⟨a,b,c,d⟩
theorem MR (l:List Nd) (a b:Int):recs pC l++[.int .i64 a,.int .i64 b]=recs pC (l++[(a,b)]):=qR l (a,b)
theorem CW (l:List A) {n:Nat} (h:n=l.length*4):win (recs aC l) 0 n=recs aC l:=BO aR l h
theorem Np (l:List Nd) {n:Nat} (h:n=l.length*2):win (recs pC l) 0 n=recs pC l:=BO pR l h
theorem Ku:recs aC []=[]:=rfl
theorem NV:recs pC []=[]:=rfl
attribute [go_sem] Jm Pn J8 Oq KO AQ FC BK Ie LV yS MR CW Np jg uN Ku NV okV
def fK (fin:List Bool) (al:List A):List HV:=[.sl fin.length (HL.bools fin),gX al]
def dL (ll:List (List A)):List HV:=ll.map gX
def fA (ll:List (List A)):List HV:=ll.map fun l=>.osl 4 l.length (Ia l)
theorem uV (ll:List (List A)):(dL ll).length=ll.length:=by simp [dL]
theorem oh (ll:List (List A)):(fA ll).length=ll.length:=by simp [fA]
theorem jv (ll:List (List A)):stripL (fA ll)=dL ll:=by
 induction ll with
 | nil=>rfl
 | cons l ll ih=>simp only [fA,List.map_cons,stripL,HV.strip,jg,dL] at ih ⊢;rw [ih];rfl
theorem yM (ll:List (List A)) {i:Nat} (h:i<ll.length):(dL ll).getD i .dead=.sl (ll.getD i []).length (Ia (ll.getD i [])):=by simp [dL,h,gX]
theorem Ir (ll:List (List A)) {i:Nat} (h:i<ll.length):(fA ll).getD i .dead=.osl 4 (ll.getD i []).length (Ia (ll.getD i [])):=by simp [fA,h]
theorem rq (ll:List (List A)) (i:Nat) (l:List A) (d:HV) {n:Nat} (hn:n=l.length):((fA ll).set i d).set i (.osl 4 n (Ia l))=fA (ll.set i l):=by subst hn;simp [fA,List.map_set]
def bn (p:A->Int) (n:Nat) (l:List A):List (List A):=(List.range n).map fun i:Nat=>l.filter fun a=>p a==(i:Int)
theorem fJ (p:A->Int) (n:Nat) (l:List A):(bn p n l).length=n:=by simp [bn]
theorem oQ (p:A->Int) (n:Nat):bn p n []=List.replicate n []:=by
 apply List.ext_getElem?
 intro i
 simp only [bn,List.filter_nil,List.getElem?_map,List.getElem?_range,List.getElem?_replicate]
 split<;>simp_all
theorem jh (p:A->Int) {n i:Nat} (l:List A) (h:i<n):(bn p n l).getD i []=l.filter fun a=>p a==(i:Int):=by simp [bn,h]
theorem oz {p:A->Int} {n i:Nat} {l:List A}:((bn p n l).getD i []).length<=l.length:=by
 by_cases h:i<n
 ·rw [jh p l h];exact List.length_filter_le _ _
 ·have:(bn p n l).getD i []=[]:=by simp [bn,h]
  rw [this];exact Nat.zero_le _
theorem nD {p:A->Int} {n:Nat} {l:List A} {a:A} {j:Nat} (hj:p a=(j:Int)):(bn p n l).set j ((bn p n l).getD j []++[a])=bn p n (l++[a]):=by
 apply List.ext_getElem?
 intro i
 rw [List.getElem?_set]
 by_cases hi:i<n
 ·by_cases e:j=i
  ·subst e
   rw [jh p l hi]
   simp [bn,hi,hj]
  ·have:¬ (j:Int)=(i:Int):=by omega
   simp [bn,hi,e,hj,this]
 ·simp [bn,hi]
  intro e;omega
theorem O0 (n:Nat):(List.replicate n [HV.osl 4 0 []]).flatten=fA (List.replicate n []):=by
 induction n with
 | zero=>rfl
 | succ n ih=>rw [List.replicate_succ,List.flatten_cons,ih];rfl
theorem wM (ll:List (List A)):fM (fA ll)=true:=by
 have hr:∀l:List A,fM (Ia l)=true:=fun l=>by
  induction l with
  | nil=>rfl
  | cons a l ih=>simpa [recs,aC,fM,HV.noRd] using ih
 induction ll with
 | nil=>rfl
 | cons l ll ih=>simp only [fA,List.map_cons,fM,HV.noRd,hr,Bool.true_and] at ih ⊢;exact ih
theorem Iu (l:List Nd) (p q:Int):yh (l.map pk) (kU l.length) (.bool false) (.agg [.int .i64 p,.int .i64 q])=(.bool (decide ((p,q)∈l)),decide ((p,q)∈l)):=by
 rw [show HV.agg [.int .i64 p,.int .i64 q]=pk (p,q) from rfl,Dw yA];congr
theorem DJ (l:List Nd) (id:Nat) (pa:List Nat) (p q:Int):lX id pa (l.map pk) (kU l.length) (.bool false) (.agg [.int .i64 p,.int .i64 q])=(.bool (decide ((p,q)∈l)),decide ((p,q)∈l)):=by
 rw [show HV.agg [.int .i64 p,.int .i64 q]=pk (p,q) from rfl,IB yA];congr
theorem uK (l:List Nd) (kd:KK) (p q:Int):rF ⟨kd,none⟩ (l.map pk) (kU l.length) (.agg [.int .i64 p,.int .i64 q]) (.bool true)=.omap ⟨kd,none⟩ ((ins (p,q) l).map pk) (kU (ins (p,q) l).length):=MH yA (p,q) l
attribute [go_sem] Iu DJ uK uV oh jv yM Ir O0
end Go.Proofs.Ytlbdmpjnmfmnfaa
