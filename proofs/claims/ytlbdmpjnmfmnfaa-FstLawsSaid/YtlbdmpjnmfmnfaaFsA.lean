import Derived.Test.YtlbdmpjnmfmnfaaHl5
import Derived.Test.YtlbdmpjnmfmnfaaCodes
import Derived.Test.YtlbdmpjnmfmnfaaFsP
section
set_option linter.unusedSimpArgs false
set_option linter.unusedVariables false
namespace Go.Proofs.Ytlbdmpjnmfmnfaa
open Go.RowKit Go.HL
section
variable {F:Nat->Prop} {h:Hp} {R:HV->Value->Prop}
end
section
variable {P:Program} {k:List HI} {Q:HE->St->Prop} {C:CallSpec} {all r:List aH} {i:Nat} {d:Option Nat} {sl sl' st st':List (Nat×HV)} {nx nx':Nat}
end
theorem iD (l:List Int) {n:Nat} (h:n=l.length):win (HL.ints l) 0 n=HL.ints l:=jc _ (by rw [ints_len];exact h)
theorem iJ (l:List Bool) {n:Nat} (h:n=l.length):win (HL.bools l) 0 n=HL.bools l:=jc _ (by rw [bools_len];exact h)
theorem CJ (v:HV) (r:List HV):cZ (v::r)=(gK v&&cZ r):=rfl
theorem FO:cZ []=true:=rfl
theorem qx (v:HV) (r:List HV):gQ (v::r)=(cellV v&&gQ r):=rfl
theorem qK:gQ []=true:=rfl
theorem Tu (n:Nat):(List.replicate n [HV.int .i64 0]).flatten=HL.ints (List.replicate n 0):=by
 induction n with
 | zero=>rfl
 | succ n ih=>rw [List.replicate_succ,List.flatten_cons,ih];rfl
theorem Dz (n:Nat):(List.replicate n [HV.bool false]).flatten=HL.bools (List.replicate n false):=by
 induction n with
 | zero=>rfl
 | succ n ih=>rw [List.replicate_succ,List.flatten_cons,ih];rfl
theorem SG (off m:Nat):win [] off m=[]:=by unfold win;split<;>simp
theorem win_cons (a:HV) (r:List HV) (off m:Nat):win (a::r) off m=if off=0/\m=(a::r).length then a::r else ((a::r).drop off).take m:=rfl
attribute [go_sem] HL.ints_get HL.bools_get List.getD_cons_zero List.getD_cons_succ SG iD iJ win_cons List.drop_zero List.drop_succ_cons List.take_zero List.take_succ_cons List.length_cons List.length_nil and_true true_and and_self and_false false_and if_true if_false Nat.mul_one Nat.zero_mul Nat.zero_add Nat.add_zero Nat.mul_zero HL.ints_len HL.bools_len List.length_set HL.ints_cell HL.bools_cell qx qK cellV HL.ints_flat HL.bools_flat CJ FO gK Bool.and_true Bool.and_self Int.toNat_natCast Int.sub_zero Int.toNat_zero HL.ints_snoc HL.bools_snoc HL.ints_app HL.bools_app List.nil_append List.append_nil List.cons_append setFrom HL.ints_set HL.bools_set List.set_cons_zero List.set_cons_succ dP aJ dM bM cellsOf List.flatMap_cons List.flatMap_nil stride eU Tu Dz IntWalk.i64_in Bool.not_true Bool.not_false Bool.false_eq_true beq_self_eq_true beq_true beq_false Bool.true_beq Bool.false_beq Bool.not_not
end Go.Proofs.Ytlbdmpjnmfmnfaa
end
section
set_option linter.unusedSimpArgs false
set_option linter.unusedVariables false
namespace Go.Proofs.Ytlbdmpjnmfmnfaa
open Go.HL Go.FS
def recs {α:Type} (g:α->List HV) (l:List α):List HV:=l.flatMap g
structure Rec {α:Type} (g:α->List HV) (k:Nat):Prop where
 len:∀x,(g x).length=k
 flat:∀x,cZ (g x)=true
 cell:∀x,gQ (g x)=true
 strip:∀x,stripL (g x)=g x
section
variable {α:Type} {g:α->List HV} {k:Nat}
theorem oP (r:Rec g k) (l:List α):(recs g l).length=l.length*k:=by
 induction l with
 | nil=>simp [recs]
 | cons x l ih=>simp only [recs,List.flatMap_cons,List.length_append,r.len,List.length_cons] at ih ⊢;rw [ih,Nat.add_mul];omega
theorem LG (r:Rec g k) (l:List α):cZ (recs g l)=true:=by
 simp only [cZ,recs,List.all_flatMap,List.all_eq_true]
 intro x _ v hv
 exact List.all_eq_true.1 (r.flat x) v hv
theorem AZ (r:Rec g k) (l:List α):gQ (recs g l)=true:=by
 simp only [gQ,recs,List.all_flatMap,List.all_eq_true]
 intro x _ v hv
 exact List.all_eq_true.1 (r.cell x) v hv
theorem zZ (a b:List HV):stripL (a++b)=stripL a++stripL b:=by
 induction a with
 | nil=>rfl
 | cons x a ih=>simp [stripL,ih]
theorem yj (r:Rec g k) (l:List α):stripL (recs g l)=recs g l:=by
 induction l with
 | nil=>rfl
 | cons x l ih=>simp only [recs,List.flatMap_cons,zZ,r.strip] at ih ⊢;rw [ih]
theorem tC (l:List α) (x:α):recs g l++g x=recs g (l++[x]):=by simp [recs]
theorem kZ (l m:List α):recs g l++recs g m=recs g (l++m):=by simp [recs]
theorem LM (r:Rec g k) (l:List α) (i:Nat):(recs g l).drop (i*k)=recs g (l.drop i):=by
 induction l generalizing i with
 | nil=>simp [recs]
 | cons x l ih =>
  cases i with
  | zero=>simp
  | succ i =>
   have:(i+1)*k=k+i*k:=by rw [Nat.add_mul];omega
   simp only [recs,List.flatMap_cons,List.drop_succ_cons] at ih ⊢
   rw [this,<- List.drop_drop,List.drop_left' (r.len x)]
   exact ih i
theorem J6 (r:Rec g k) (l:List α) (i:Nat):(recs g l).take (i*k)=recs g (l.take i):=by
 induction l generalizing i with
 | nil=>simp [recs]
 | cons x l ih =>
  cases i with
  | zero=>simp [recs]
  | succ i =>
   have:(i+1)*k=k+i*k:=by rw [Nat.add_mul];omega
   simp only [recs,List.flatMap_cons,List.take_succ_cons] at ih ⊢
   rw [this,List.take_append,r.len,List.take_of_length_le (by rw [r.len];omega),Nat.add_sub_cancel_left,ih i]
theorem Kq (r:Rec g k) (l:List α) {o n:Nat} (h:o+n<=l.length):win (recs g l) (o*k) (n*k)=recs g ((l.drop o).take n):=by
 have e:((recs g l).drop (o*k)).take (n*k)=recs g ((l.drop o).take n):=by rw [LM r,J6 r]
 unfold win
 split
 ·rename_i hc
  rw [<- e,hc.1,List.drop_zero,hc.2,List.take_length]
 ·exact e
theorem Eh (r:Rec g k) (l:List α) {n:Nat} (h:n=l.length*k):win (recs g l) 0 n=recs g l:=jc _ (by rw [oP r];exact h)
theorem rW [Inhabited α] (r:Rec g k) (l:List α) {i:Nat} (h:i<l.length):win (recs g l) (i*k) k=g (l.getD i default):=by
 have:=Kq r l (o:=i) (n:=1) (by omega)
 rw [Nat.one_mul] at this
 rw [this,List.drop_eq_getElem_cons h,List.take_succ_cons,List.take_zero]
 simp only [recs,List.flatMap_cons,List.flatMap_nil,List.append_nil]
 simp [h]
theorem zq [Inhabited α] (r:Rec g k) (l:List α) {i j:Nat} (h:i<l.length) (hj:j<k):(recs g l).getD (i*k+j) .dead=(g (l.getD i default)).getD j .dead:=by
 rw [<- rW r l h]
 have hl:=oP r l
 have h2:i*k+k<=l.length*k:=by
  have:=Nat.mul_le_mul_right k (show i+1<=l.length by omega)
  rw [Nat.add_mul] at this;omega
 simp only [List.getD_eq_getElem?_getD]
 unfold win
 split
 ·rename_i hc;rw [hc.1,Nat.zero_add]
 ·rw [List.getElem?_take,if_pos hj,List.getElem?_drop]
end
def aC (a:A):List HV:=[.int .i64 a.f,.int .i64 a.i,.int .i64 a.o,.int .i64 a.t]
theorem aR:Rec aC 4:=⟨fun _=>rfl,fun _=>rfl,fun _=>rfl,fun _=>rfl⟩
abbrev JX (l:List A):List HV:=recs aC l
def jX (l:List A):HV:=.sl l.length (JX l)
def pC (x:Nd):List HV:=[.int .i64 x.1,.int .i64 x.2]
theorem pR:Rec pC 2:=⟨fun _=>rfl,fun _=>rfl,fun _=>rfl,fun _=>rfl⟩
abbrev uV (l:List Nd):List HV:=recs pC l
theorem Qk (l:List A) {i:Nat} (h:i<l.length):win (recs aC l) (i*4) 4=[.int .i64 (l.getD i default).f,.int .i64 (l.getD i default).i,.int .i64 (l.getD i default).o,.int .i64 (l.getD i default).t]:=rW aR l h
theorem Q8 (l:List Nd) {i:Nat} (h:i<l.length):win (recs pC l) (i*2) 2=[.int .i64 (l.getD i default).1,.int .i64 (l.getD i default).2]:=rW pR l h
theorem Ov (l:List Nd) {i:Nat} (h:i<l.length):(recs pC l).getD (i*2+0) .dead=.int .i64 (l.getD i default).1:=zq pR l h (by omega)
theorem Q4 (l:List Nd) {i:Nat} (h:i<l.length):(recs pC l).getD (i*2) .dead=.int .i64 (l.getD i default).1:=zq pR (j:=0) l h (by omega)
theorem OT (l:List Nd) {i:Nat} (h:i<l.length):(recs pC l).getD (i*2+1) .dead=.int .i64 (l.getD i default).2:=zq pR l h (by omega)
theorem yu (l:List A):(recs aC l).length=l.length*4:=oP aR l
theorem IM (l:List Nd):(recs pC l).length=l.length*2:=oP pR l
theorem DR (l:List Nd):cZ (recs pC l)=true:=LG pR l
theorem J5 (l:List A):gQ (recs aC l)=true:=AZ aR l
theorem O4 (l:List Nd):gQ (recs pC l)=true:=AZ pR l
theorem jf (l:List A):stripL (recs aC l)=recs aC l:=yj aR l
theorem wQ (l:List Nd):stripL (recs pC l)=recs pC l:=yj pR l
theorem xh (l:List A) (a b c d:Int):recs aC l++[.int .i64 a,.int .i64 b,.int .i64 c,.int .i64 d]=recs aC (l++[⟨a,b,c,d⟩]):=tC l ⟨a,b,c,d⟩
theorem OX (l:List Nd) (a b:Int):recs pC l++[.int .i64 a,.int .i64 b]=recs pC (l++[(a,b)]):=tC l (a,b)
theorem yS (l:List A) {n:Nat} (h:n=l.length*4):win (recs aC l) 0 n=recs aC l:=Eh aR l h
theorem Sv (l:List Nd) {n:Nat} (h:n=l.length*2):win (recs pC l) 0 n=recs pC l:=Eh pR l h
theorem Po:recs aC []=[]:=rfl
theorem TE:recs pC []=[]:=rfl
attribute [go_sem] Qk Q8 Ov Q4 OT yu IM DR J5 O4 xh OX yS Sv jf wQ Po TE okV
def iC (fin:List Bool) (al:List A):List HV:=[.sl fin.length (HL.bools fin),jX al]
def fO (ll:List (List A)):List HV:=ll.map jX
def gp (ll:List (List A)):List HV:=ll.map fun l=>.osl 4 l.length (JX l)
theorem xk (ll:List (List A)):(fO ll).length=ll.length:=by simp [fO]
theorem sV (ll:List (List A)):(gp ll).length=ll.length:=by simp [gp]
theorem lZ (ll:List (List A)):stripL (gp ll)=fO ll:=by
 induction ll with
 | nil=>rfl
 | cons l ll ih=>simp only [gp,List.map_cons,stripL,HV.strip,jf,fO] at ih ⊢;rw [ih];rfl
theorem AV (ll:List (List A)) {i:Nat} (h:i<ll.length):(fO ll).getD i .dead=.sl (ll.getD i []).length (JX (ll.getD i [])):=by simp [fO,h,jX]
theorem Ld (ll:List (List A)) {i:Nat} (h:i<ll.length):(gp ll).getD i .dead=.osl 4 (ll.getD i []).length (JX (ll.getD i [])):=by simp [gp,h]
theorem Bz (ll:List (List A)) (i:Nat) (l:List A) (d:HV) {n:Nat} (hn:n=l.length):((gp ll).set i d).set i (.osl 4 n (JX l))=gp (ll.set i l):=by subst hn;simp [gp,List.map_set]
def bT (p:A->Int) (n:Nat) (l:List A):List (List A):=(List.range n).map fun i:Nat=>l.filter fun a=>p a==(i:Int)
theorem iY (p:A->Int) (n:Nat) (l:List A):(bT p n l).length=n:=by simp [bT]
theorem yE (p:A->Int) (n:Nat):bT p n []=List.replicate n []:=by
 apply List.ext_getElem?
 intro i
 simp only [bT,List.filter_nil,List.getElem?_map,List.getElem?_range,List.getElem?_replicate]
 split<;>simp_all
theorem lu (p:A->Int) {n i:Nat} (l:List A) (h:i<n):(bT p n l).getD i []=l.filter fun a=>p a==(i:Int):=by simp [bT,h]
theorem zN {p:A->Int} {n i:Nat} {l:List A}:((bT p n l).getD i []).length<=l.length:=by
 by_cases h:i<n
 ·rw [lu p l h];exact List.length_filter_le _ _
 ·have:(bT p n l).getD i []=[]:=by simp [bT,h]
  rw [this];exact Nat.zero_le _
theorem xG {p:A->Int} {n:Nat} {l:List A} {a:A} {j:Nat} (hj:p a=(j:Int)):(bT p n l).set j ((bT p n l).getD j []++[a])=bT p n (l++[a]):=by
 apply List.ext_getElem?
 intro i
 rw [List.getElem?_set]
 by_cases hi:i<n
 ·by_cases e:j=i
  ·subst e
   rw [lu p l hi]
   simp [bT,hi,hj]
  ·have:¬ (j:Int)=(i:Int):=by omega
   simp [bT,hi,e,hj,this]
 ·simp [bT,hi]
  intro e;omega
theorem SC (n:Nat):(List.replicate n [HV.osl 4 0 []]).flatten=gp (List.replicate n []):=by
 induction n with
 | zero=>rfl
 | succ n ih=>rw [List.replicate_succ,List.flatten_cons,ih];rfl
theorem yl (ll:List (List A)):fZ (gp ll)=true:=by
 have hr:∀l:List A,fZ (JX l)=true:=fun l=>by
  induction l with
  | nil=>rfl
  | cons a l ih=>simpa [recs,aC,fZ,HV.noRd] using ih
 induction ll with
 | nil=>rfl
 | cons l ll ih=>simp only [gp,List.map_cons,fZ,HV.noRd,hr,Bool.true_and] at ih ⊢;exact ih
theorem JU (l:List Nd) (p q:Int):zO (l.map pk) (lX l.length) (.bool false) (.agg [.int .i64 p,.int .i64 q])=(.bool (decide ((p,q)∈l)),decide ((p,q)∈l)):=by
 rw [show HV.agg [.int .i64 p,.int .i64 q]=pk (p,q) from rfl,Dy Bc];congr
theorem GZ (l:List Nd) (id:Nat) (pa:List Nat) (p q:Int):nH id pa (l.map pk) (lX l.length) (.bool false) (.agg [.int .i64 p,.int .i64 q])=(.bool (decide ((p,q)∈l)),decide ((p,q)∈l)):=by
 rw [show HV.agg [.int .i64 p,.int .i64 q]=pk (p,q) from rfl,Kr Bc];congr
theorem xe (l:List Nd) (kd:KK) (p q:Int):ug ⟨kd,none⟩ (l.map pk) (lX l.length) (.agg [.int .i64 p,.int .i64 q]) (.bool true)=.omap ⟨kd,none⟩ ((ins (p,q) l).map pk) (lX (ins (p,q) l).length):=Oa Bc (p,q) l
attribute [go_sem] JU GZ xe xk sV lZ AV Ld SC
end Go.Proofs.Ytlbdmpjnmfmnfaa
end
