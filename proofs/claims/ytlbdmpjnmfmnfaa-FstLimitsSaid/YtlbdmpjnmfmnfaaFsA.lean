import Derived.Test.YtlbdmpjnmfmnfaaFt2
import Derived.Test.YtlbdmpjnmfmnfaaFsP
section
set_option linter.unusedSimpArgs false
set_option linter.unusedVariables false
namespace Go.FS
open Go.HL
def l7 (n k:Nat):List A:=(List.range k).map fun i:Nat=>⟨i,0,0,((i+1) % n:Nat)⟩
theorem lW {n k:Nat}:(l7 n k).length=k:=by simp [l7]
theorem Ci {n k:Nat}:l7 n (k+1)=l7 n k++[⟨k,0,0,((k+1) % n:Nat)⟩]:=by simp [l7,List.range_succ]
theorem FQ {n k p:Nat} (h:p<k):outA (p:Int) (l7 n k)=[⟨p,0,0,((p+1) % n:Nat)⟩]:=by
 induction k with
 | zero=>omega
 | succ k ih =>
  rw [Ci]
  unfold outA at ih ⊢
  rw [List.filter_append]
  by_cases e:p=k
  ·subst e
   have:(l7 n p).filter (fun a=>a.f==(p:Int))=[]:=by
    rw [List.filter_eq_nil_iff]
    intro a ha
    simp only [l7,List.mem_map,List.mem_range] at ha
    obtain ⟨j,hj,rfl⟩:=ha
    simp only [beq_iff_eq];omega
   rw [this]
   simp
  ·rw [ih (by omega)]
   have h2:((k:Int)==(p:Int))=false:=by rw [beq_eq_false_iff_ne];omega
   simp [h2]
def nY (n m k:Nat):List Nd:=(List.range k).map fun i:Nat=>(((i % n:Nat):Int),((i % m:Nat):Int))
theorem zZ {n m k i:Nat} (h:i<k):(nY n m k).getD i default=(((i % n:Nat):Int),((i % m:Nat):Int)):=by
 simp [nY,h]
theorem ul {n m k:Nat}:(nY n m k).length=k:=by simp [nY]
theorem Nc {n m k:Nat}:nY n m (k+1)=nY n m k++[(((k % n:Nat):Int),((k % m:Nat):Int))]:=by simp [nY,List.range_succ]
theorem Kq {n m i:Nat} (hn:0<n) (hm:0<m):gB (l7 n n) (l7 m m) (((i % n:Nat):Int),((i % m:Nat):Int))=[(0,0,((((i+1) % n:Nat):Int),(((i+1) % m:Nat):Int)))]:=by
 unfold gB
 simp only
 rw [FQ (Nat.mod_lt _ hn),FQ (Nat.mod_lt _ hm)]
 have e1:(i % n+1) % n=(i+1) % n:=by simp
 have e2:(i % m+1) % m=(i+1) % m:=by simp
 rw [e1,e2]
 rfl
theorem TP {n m i:Nat} (hn:0<n) (hm:0<m) (hinj:∀j,j<i+1->¬ (j % n=(i+1) % n/\j % m=(i+1) % m)) {st:CS} (h:st.1=nY n m (i+1)):(Bd (l7 n n) (l7 m m) i st).1=nY n m (i+2):=by
 unfold Bd
 rw [h,zZ (by omega),Kq hn hm,uh]
 unfold add1
 simp only
 rw [h,Nc (k:=i+1)]
 unfold ins
 rw [if_neg]
 intro hmem
 simp only [nY,List.mem_map,List.mem_range,Prod.mk.injEq] at hmem
 obtain ⟨j,hj,h1,h2⟩:=hmem
 exact hinj j hj ⟨by omega,by omega⟩
theorem zJ {n m:Nat} (hn:0<n) (hm:0<m) (hinj:∀i j,j<i->i<=2048->¬ (j % n=i % n/\j % m=i % m)):∀ (f i:Nat) (st:CS),i<=2047->st.1=nY n m (i+1)->lH (l7 n n) (l7 m m) f i st=none
 | 0,_,_,_,_=>rfl
 | f+1,i,st,hi,hs=>by
  have hr:=TP (st:=st) hn hm (fun j hj=>hinj (i+1) j hj (by omega)) hs
  unfold lH
  rw [hs,ul,if_pos (by omega)]
  by_cases e:i=2047
  ·rw [if_neg]
   intro hw
   simp only [within,decide_eq_true_eq] at hw
   rw [hr,ul] at hw
   omega
  ·rw [zJ hn hm hinj f (i+1) _ (by omega) hr,ite_self]
theorem Hg {n m:Nat} (hn:0<n) (hm:0<m) (hinj:∀i j,j<i->i<=2048->¬ (j % n=i % n/\j % m=i % m)):oG (l7 n n) (l7 m m)=none :=
 zJ hn hm hinj _ 0 _ (by omega) (by simp [nY])
theorem Hr:oG (l7 1025 1025) (l7 2 2)=none:=Hg (by omega) (by omega) fun i j h1 h2=>by omega
theorem O3:oG (l7 45 45) (l7 46 46)=none:=Hg (by omega) (by omega) fun i j h1 h2=>by omega
end Go.FS
end
section
set_option linter.unusedSimpArgs false
set_option linter.unusedVariables false
namespace Go.Proofs.Ytlbdmpjnmfmnfaa
open Go.HL Go.FS
def recs {α:Type} (g:α->List HV) (l:List α):List HV:=l.flatMap g
structure Rec {α:Type} (g:α->List HV) (k:Nat):Prop where
 len:∀x,(g x).length=k
 flat:∀x,bW (g x)=true
 cell:∀x,fZ (g x)=true
 strip:∀x,stripL (g x)=g x
section
variable {α:Type} {g:α->List HV} {k:Nat}
theorem oK (r:Rec g k) (l:List α):(recs g l).length=l.length*k:=by
 induction l with
 | nil=>simp [recs]
 | cons x l ih=>simp only [recs,List.flatMap_cons,List.length_append,r.len,List.length_cons] at ih ⊢;rw [ih,Nat.add_mul];omega
theorem II (r:Rec g k) (l:List α):bW (recs g l)=true:=by
 simp only [bW,recs,List.all_flatMap,List.all_eq_true]
 intro x _ v hv
 exact List.all_eq_true.1 (r.flat x) v hv
theorem y7 (r:Rec g k) (l:List α):fZ (recs g l)=true:=by
 simp only [fZ,recs,List.all_flatMap,List.all_eq_true]
 intro x _ v hv
 exact List.all_eq_true.1 (r.cell x) v hv
theorem yS (a b:List HV):stripL (a++b)=stripL a++stripL b:=by
 induction a with
 | nil=>rfl
 | cons x a ih=>simp [stripL,ih]
theorem xu (r:Rec g k) (l:List α):stripL (recs g l)=recs g l:=by
 induction l with
 | nil=>rfl
 | cons x l ih=>simp only [recs,List.flatMap_cons,yS,r.strip] at ih ⊢;rw [ih]
theorem rf (l:List α) (x:α):recs g l++g x=recs g (l++[x]):=by simp [recs]
theorem lD (l m:List α):recs g l++recs g m=recs g (l++m):=by simp [recs]
theorem IW (r:Rec g k) (l:List α) (i:Nat):(recs g l).drop (i*k)=recs g (l.drop i):=by
 induction l generalizing i with
 | nil=>simp [recs]
 | cons x l ih =>
  cases i with
  | zero=>simp
  | succ i =>
   have:(i+1)*k=k+i*k:=by rw [Nat.add_mul];omega
   simp only [recs,List.flatMap_cons,List.drop_succ_cons] at ih ⊢
   rw [this,<- List.drop_drop,List.drop_left' (r.len x)]
   exact ih i
theorem Hy (r:Rec g k) (l:List α) (i:Nat):(recs g l).take (i*k)=recs g (l.take i):=by
 induction l generalizing i with
 | nil=>simp [recs]
 | cons x l ih =>
  cases i with
  | zero=>simp [recs]
  | succ i =>
   have:(i+1)*k=k+i*k:=by rw [Nat.add_mul];omega
   simp only [recs,List.flatMap_cons,List.take_succ_cons] at ih ⊢
   rw [this,List.take_append,r.len,List.take_of_length_le (by rw [r.len];omega),Nat.add_sub_cancel_left,ih i]
theorem Jq (r:Rec g k) (l:List α) {o n:Nat} (h:o+n<=l.length):win (recs g l) (o*k) (n*k)=recs g ((l.drop o).take n):=by
 have e:((recs g l).drop (o*k)).take (n*k)=recs g ((l.drop o).take n):=by rw [IW r,Hy r]
 unfold win
 split
 ·rename_i hc
  rw [<- e,hc.1,List.drop_zero,hc.2,List.take_length]
 ·exact e
theorem Ce (r:Rec g k) (l:List α) {n:Nat} (h:n=l.length*k):win (recs g l) 0 n=recs g l:=iI _ (by rw [oK r];exact h)
theorem pX [Inhabited α] (r:Rec g k) (l:List α) {i:Nat} (h:i<l.length):win (recs g l) (i*k) k=g (l.getD i default):=by
 have:=Jq r l (o:=i) (n:=1) (by omega)
 rw [Nat.one_mul] at this
 rw [this,List.drop_eq_getElem_cons h,List.take_succ_cons,List.take_zero]
 simp only [recs,List.flatMap_cons,List.flatMap_nil,List.append_nil]
 simp [h]
theorem xm [Inhabited α] (r:Rec g k) (l:List α) {i j:Nat} (h:i<l.length) (hj:j<k):(recs g l).getD (i*k+j) .dead=(g (l.getD i default)).getD j .dead:=by
 rw [<- pX r l h]
 have hl:=oK r l
 have h2:i*k+k<=l.length*k:=by
  have:=Nat.mul_le_mul_right k (show i+1<=l.length by omega)
  rw [Nat.add_mul] at this;omega
 simp only [List.getD_eq_getElem?_getD]
 unfold win
 split
 ·rename_i hc;rw [hc.1,Nat.zero_add]
 ·rw [List.getElem?_take,if_pos hj,List.getElem?_drop]
end
def aC (a:A):List HV:=[.int .i64 a.f,.int .i64 a.i,.int .i64 a.o,.int .i64 a.t]
theorem aR:Rec aC 4:=⟨fun _=>rfl,fun _=>rfl,fun _=>rfl,fun _=>rfl⟩
abbrev Iw (l:List A):List HV:=recs aC l
def jJ (l:List A):HV:=.sl l.length (Iw l)
def pC (x:Nd):List HV:=[.int .i64 x.1,.int .i64 x.2]
theorem pR:Rec pC 2:=⟨fun _=>rfl,fun _=>rfl,fun _=>rfl,fun _=>rfl⟩
abbrev nY (l:List Nd):List HV:=recs pC l
theorem JG (l:List A) {i:Nat} (h:i<l.length):win (recs aC l) (i*4) 4=[.int .i64 (l.getD i default).f,.int .i64 (l.getD i default).i,.int .i64 (l.getD i default).o,.int .i64 (l.getD i default).t]:=pX aR l h
theorem O6 (l:List Nd) {i:Nat} (h:i<l.length):win (recs pC l) (i*2) 2=[.int .i64 (l.getD i default).1,.int .i64 (l.getD i default).2]:=pX pR l h
theorem LD (l:List Nd) {i:Nat} (h:i<l.length):(recs pC l).getD (i*2+0) .dead=.int .i64 (l.getD i default).1:=xm pR l h (by omega)
theorem zZ (l:List Nd) {i:Nat} (h:i<l.length):(recs pC l).getD (i*2) .dead=.int .i64 (l.getD i default).1:=xm pR (j:=0) l h (by omega)
theorem KE (l:List Nd) {i:Nat} (h:i<l.length):(recs pC l).getD (i*2+1) .dead=.int .i64 (l.getD i default).2:=xm pR l h (by omega)
theorem wV (l:List A):(recs aC l).length=l.length*4:=oK aR l
theorem ul (l:List Nd):(recs pC l).length=l.length*2:=oK pR l
theorem Df (l:List Nd):bW (recs pC l)=true:=II pR l
theorem IU (l:List A):fZ (recs aC l)=true:=y7 aR l
theorem Ns (l:List Nd):fZ (recs pC l)=true:=y7 pR l
theorem iR (l:List A):stripL (recs aC l)=recs aC l:=xu aR l
theorem vw (l:List Nd):stripL (recs pC l)=recs pC l:=xu pR l
theorem vI (l:List A) (a b c d:Int):recs aC l++[.int .i64 a,.int .i64 b,.int .i64 c,.int .i64 d]=recs aC (l++[⟨a,b,c,d⟩]):=rf l ⟨a,b,c,d⟩
theorem NI (l:List Nd) (a b:Int):recs pC l++[.int .i64 a,.int .i64 b]=recs pC (l++[(a,b)]):=rf l (a,b)
theorem uO (l:List A) {n:Nat} (h:n=l.length*4):win (recs aC l) 0 n=recs aC l:=Ce aR l h
theorem P6 (l:List Nd) {n:Nat} (h:n=l.length*2):win (recs pC l) 0 n=recs pC l:=Ce pR l h
theorem KZ:recs aC []=[]:=rfl
theorem Oy:recs pC []=[]:=rfl
attribute [go_sem] JG O6 LD zZ KE wV ul Df IU Ns vI NI uO P6 iR vw KZ Oy okV
def iF (fin:List Bool) (al:List A):List HV:=[.sl fin.length (HL.bools fin),jJ al]
def eU (ll:List (List A)):List HV:=ll.map jJ
def fM (ll:List (List A)):List HV:=ll.map fun l=>.osl 4 l.length (Iw l)
theorem uT (ll:List (List A)):(eU ll).length=ll.length:=by simp [eU]
theorem rJ (ll:List (List A)):(fM ll).length=ll.length:=by simp [fM]
theorem lG (ll:List (List A)):stripL (fM ll)=eU ll:=by
 induction ll with
 | nil=>rfl
 | cons l ll ih=>simp only [fM,List.map_cons,stripL,HV.strip,iR,eU] at ih ⊢;rw [ih];rfl
theorem zG (ll:List (List A)) {i:Nat} (h:i<ll.length):(eU ll).getD i .dead=.sl (ll.getD i []).length (Iw (ll.getD i [])):=by simp [eU,h,jJ]
theorem Jh (ll:List (List A)) {i:Nat} (h:i<ll.length):(fM ll).getD i .dead=.osl 4 (ll.getD i []).length (Iw (ll.getD i [])):=by simp [fM,h]
theorem zS (ll:List (List A)) (i:Nat) (l:List A) (d:HV) {n:Nat} (hn:n=l.length):((fM ll).set i d).set i (.osl 4 n (Iw l))=fM (ll.set i l):=by subst hn;simp [fM,List.map_set]
def bD (p:A->Int) (n:Nat) (l:List A):List (List A):=(List.range n).map fun i:Nat=>l.filter fun a=>p a==(i:Int)
theorem iE (p:A->Int) (n:Nat) (l:List A):(bD p n l).length=n:=by simp [bD]
theorem xe (p:A->Int) (n:Nat):bD p n []=List.replicate n []:=by
 apply List.ext_getElem?
 intro i
 simp only [bD,List.filter_nil,List.getElem?_map,List.getElem?_range,List.getElem?_replicate]
 split<;>simp_all
theorem kK (p:A->Int) {n i:Nat} (l:List A) (h:i<n):(bD p n l).getD i []=l.filter fun a=>p a==(i:Int):=by simp [bD,h]
theorem wY {p:A->Int} {n i:Nat} {l:List A}:((bD p n l).getD i []).length<=l.length:=by
 by_cases h:i<n
 ·rw [kK p l h];exact List.length_filter_le _ _
 ·have:(bD p n l).getD i []=[]:=by simp [bD,h]
  rw [this];exact Nat.zero_le _
theorem vW {p:A->Int} {n:Nat} {l:List A} {a:A} {j:Nat} (hj:p a=(j:Int)):(bD p n l).set j ((bD p n l).getD j []++[a])=bD p n (l++[a]):=by
 apply List.ext_getElem?
 intro i
 rw [List.getElem?_set]
 by_cases hi:i<n
 ·by_cases e:j=i
  ·subst e
   rw [kK p l hi]
   simp [bD,hi,hj]
  ·have:¬ (j:Int)=(i:Int):=by omega
   simp [bD,hi,e,hj,this]
 ·simp [bD,hi]
  intro e;omega
theorem PK (n:Nat):(List.replicate n [HV.osl 4 0 []]).flatten=fM (List.replicate n []):=by
 induction n with
 | zero=>rfl
 | succ n ih=>rw [List.replicate_succ,List.flatten_cons,ih];rfl
theorem yj (ll:List (List A)):eu (fM ll)=true:=by
 have hr:∀l:List A,eu (Iw l)=true:=fun l=>by
  induction l with
  | nil=>rfl
  | cons a l ih=>simpa [recs,aC,eu,HV.noRd] using ih
 induction ll with
 | nil=>rfl
 | cons l ll ih=>simp only [fM,List.map_cons,eu,HV.noRd,hr,Bool.true_and] at ih ⊢;exact ih
theorem I9 (l:List Nd) (p q:Int):yQ (l.map pk) (kT l.length) (.bool false) (.agg [.int .i64 p,.int .i64 q])=(.bool (decide ((p,q)∈l)),decide ((p,q)∈l)):=by
 rw [show HV.agg [.int .i64 p,.int .i64 q]=pk (p,q) from rfl,Cm yX];congr
theorem Fp (l:List Nd) (id:Nat) (pa:List Nat) (p q:Int):mG id pa (l.map pk) (kT l.length) (.bool false) (.agg [.int .i64 p,.int .i64 q])=(.bool (decide ((p,q)∈l)),decide ((p,q)∈l)):=by
 rw [show HV.agg [.int .i64 p,.int .i64 q]=pk (p,q) from rfl,Jw yX];congr
theorem vk (l:List Nd) (kd:KK) (p q:Int):rX ⟨kd,none⟩ (l.map pk) (kT l.length) (.agg [.int .i64 p,.int .i64 q]) (.bool true)=.omap ⟨kd,none⟩ ((ins (p,q) l).map pk) (kT (ins (p,q) l).length):=JM yX (p,q) l
attribute [go_sem] I9 Fp vk uT rJ lG zG Jh PK
end Go.Proofs.Ytlbdmpjnmfmnfaa
end
