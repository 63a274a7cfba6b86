import Derived.Test.YtlbdmpjnmfmnfaaHl5
import Derived.Test.YtlbdmpjnmfmnfaaCodes
import Derived.Test.YtlbdmpjnmfmnfaaFsP
set_option linter.unusedSimpArgs false
set_option linter.unusedVariables false
section
namespace Go.Proofs.Ytlbdmpjnmfmnfaa
open Go.RowKit Go.HL
section
variable {F:Nat->Prop} {h:Hp} {R:HV->Value->Prop}
end
section
variable {P:Program} {k:List HI} {Q:HE->St->Prop} {C:CallSpec} {all r:List af} {i:Nat} {d:Option Nat} {sl sl' st st':List (Nat×HV)} {nx nx':Nat}
end
theorem qA (l:List Int) {n:Nat} (h:n=l.length):win (HL.ints l) 0 n=HL.ints l:=eG _ (by rw [ints_len];exact h)
theorem sS (l:List Bool) {n:Nat} (h:n=l.length):win (HL.bools l) 0 n=HL.bools l:=eG _ (by rw [bools_len];exact h)
theorem La (v:HV) (r:List HV):aV (v::r)=(gJ v&&aV r):=rfl
theorem OU:aV []=true:=rfl
theorem mJ (v:HV) (r:List HV):fH (v::r)=(cellV v&&fH r):=rfl
theorem oK:fH []=true:=rfl
theorem Z4 (n:Nat):(List.replicate n [HV.int .i64 0]).flatten=HL.ints (List.replicate n 0):=by
 induction n with
 | zero=>rfl
 | succ n ih=>rw [xB,Gz,ih];rfl
theorem Me (n:Nat):(List.replicate n [HV.bool false]).flatten=HL.bools (List.replicate n false):=by
 induction n with
 | zero=>rfl
 | succ n ih=>rw [xB,Gz,ih];rfl
theorem aay (off m:Nat):win [] off m=[]:=by unfold win;split<;>simp
theorem win_cons (a:HV) (r:List HV) (off m:Nat):win (a::r) off m=if off=0/\m=(a::r).length then a::r else ((a::r).drop off).take m:=rfl
attribute [go_sem] HL.ints_get HL.bools_get List.getD_cons_zero List.getD_cons_succ aay qA sS win_cons List.drop_zero List.drop_succ_cons List.take_zero List.take_succ_cons List.length_cons List.length_nil and_true true_and and_self and_false false_and if_true if_false Nat.mul_one Nat.zero_mul Nat.zero_add Nat.add_zero Nat.mul_zero HL.ints_len HL.bools_len List.length_set HL.ints_cell HL.bools_cell mJ oK cellV HL.ints_flat HL.bools_flat La OU gJ Bool.and_true Bool.and_self Int.toNat_natCast Int.sub_zero Int.toNat_zero HL.ints_snoc HL.bools_snoc HL.ints_app HL.bools_app List.nil_append List.append_nil List.cons_append setFrom HL.ints_set HL.bools_set List.set_cons_zero List.set_cons_succ dI aB di bn cellsOf List.flatMap_cons List.flatMap_nil stride dN Z4 Me IntWalk.i64_in Bool.not_true Bool.not_false Bool.false_eq_true beq_self_eq_true beq_true beq_false Bool.true_beq Bool.false_beq Bool.not_not
end Go.Proofs.Ytlbdmpjnmfmnfaa
end
section
namespace Go.Proofs.Ytlbdmpjnmfmnfaa
open Go.HL Go.FS
def recs {α:Type} (g:α->List HV) (l:List α):List HV:=l.flatMap g
structure Rec {α:Type} (g:α->List HV) (k:Nat):Prop where
 len:∀x,(g x).length=k
 flat:∀x,aV (g x)=true
 cell:∀x,fH (g x)=true
 strip:∀x,stripL (g x)=g x
section
variable {α:Type} {g:α->List HV} {k:Nat}
theorem vw (r:Rec g k) (l:List α):(recs g l).length=l.length*k:=by
 induction l with
 | nil=>simp [recs]
 | cons x l ih=>simp only [recs,List.flatMap_cons,bD,r.len,List.length_cons] at ih ⊢;rw [ih,lg];omega
theorem VM (r:Rec g k) (l:List α):aV (recs g l)=true:=by
 simp only [aV,recs,List.all_flatMap,zl021]
 intro x _ v hv
 exact zl021.1 (r.flat x) v hv
theorem Jl (r:Rec g k) (l:List α):fH (recs g l)=true:=by
 simp only [fH,recs,List.all_flatMap,zl021]
 intro x _ v hv
 exact zl021.1 (r.cell x) v hv
theorem IY (a b:List HV):stripL (a++b)=stripL a++stripL b:=by
 induction a with
 | nil=>rfl
 | cons x a ih=>simp [stripL,ih]
theorem Il (r:Rec g k) (l:List α):stripL (recs g l)=recs g l:=by
 induction l with
 | nil=>rfl
 | cons x l ih=>simp only [recs,List.flatMap_cons,IY,r.strip] at ih ⊢;rw [ih]
theorem zg (l:List α) (x:α):recs g l++g x=recs g (l++[x]):=by simp [recs]
theorem mF (l m:List α):recs g l++recs g m=recs g (l++m):=by simp [recs]
theorem U0 (r:Rec g k) (l:List α) (i:Nat):(recs g l).drop (i*k)=recs g (l.drop i):=by
 induction l generalizing i with
 | nil=>simp [recs]
 | cons x l ih =>
  cases i with
  | zero=>simp
  | succ i =>
   have:(i+1)*k=k+i*k:=by rw [lg];omega
   simp only [recs,List.flatMap_cons,List.drop_succ_cons] at ih ⊢
   rw [this,<- sZ,List.drop_left' (r.len x)]
   exact ih i
theorem Un (r:Rec g k) (l:List α) (i:Nat):(recs g l).take (i*k)=recs g (l.take i):=by
 induction l generalizing i with
 | nil=>simp [recs]
 | cons x l ih =>
  cases i with
  | zero=>simp [recs]
  | succ i =>
   have:(i+1)*k=k+i*k:=by rw [lg];omega
   simp only [recs,List.flatMap_cons,List.take_succ_cons] at ih ⊢
   rw [this,List.take_append,r.len,kD (by rw [r.len];omega),Nat.add_sub_cancel_left,ih i]
theorem Ug (r:Rec g k) (l:List α) {o n:Nat} (h:o+n<=l.length):win (recs g l) (o*k) (n*k)=recs g ((l.drop o).take n):=by
 have e:((recs g l).drop (o*k)).take (n*k)=recs g ((l.drop o).take n):=by rw [U0 r,Un r]
 unfold win
 split
 ·rename_i hc
  rw [<- e,hc.1,List.drop_zero,hc.2,fK]
 ·exact e
theorem Py (r:Rec g k) (l:List α) {n:Nat} (h:n=l.length*k):win (recs g l) 0 n=recs g l:=eG _ (by rw [vw r];exact h)
theorem y7 [Inhabited α] (r:Rec g k) (l:List α) {i:Nat} (h:i<l.length):win (recs g l) (i*k) k=g (l.getD i default):=by
 have:=Ug r l (o:=i) (n:=1) (by omega)
 rw [BV] at this
 rw [this,List.drop_eq_getElem_cons h,List.take_succ_cons,List.take_zero]
 simp only [recs,List.flatMap_cons,List.flatMap_nil,List.append_nil]
 simp [h]
theorem oZ [Inhabited α] (r:Rec g k) (l:List α) {i j:Nat} (h:i<l.length) (hj:j<k):(recs g l).getD (i*k+j) .dead=(g (l.getD i default)).getD j .dead:=by
 rw [<- y7 r l h]
 have hl:=vw r l
 have h2:i*k+k<=l.length*k:=by
  have:=Af k (show i+1<=l.length by omega)
  rw [lg] at this;omega
 simp only [bH]
 unfold win
 split
 ·rename_i hc;rw [hc.1,Nat.zero_add]
 ·rw [vC,if_pos hj,CX]
end
def aC (a:A):List HV:=[.int .i64 a.f,.int .i64 a.i,.int .i64 a.o,.int .i64 a.t]
theorem aR:Rec aC 4:=⟨fun _=>rfl,fun _=>rfl,fun _=>rfl,fun _=>rfl⟩
abbrev VK (l:List A):List HV:=recs aC l
def fB (l:List A):HV:=.sl l.length (VK l)
def pC (x:Nd):List HV:=[.int .i64 x.1,.int .i64 x.2]
theorem pR:Rec pC 2:=⟨fun _=>rfl,fun _=>rfl,fun _=>rfl,fun _=>rfl⟩
abbrev Bq (l:List Nd):List HV:=recs pC l
theorem YC (l:List A) {i:Nat} (h:i<l.length):win (recs aC l) (i*4) 4=[.int .i64 (l.getD i default).f,.int .i64 (l.getD i default).i,.int .i64 (l.getD i default).o,.int .i64 (l.getD i default).t]:=y7 aR l h
theorem aaI (l:List Nd) {i:Nat} (h:i<l.length):win (recs pC l) (i*2) 2=[.int .i64 (l.getD i default).1,.int .i64 (l.getD i default).2]:=y7 pR l h
theorem YW (l:List Nd) {i:Nat} (h:i<l.length):(recs pC l).getD (i*2+0) .dead=.int .i64 (l.getD i default).1:=oZ pR l h (by omega)
theorem aax (l:List Nd) {i:Nat} (h:i<l.length):(recs pC l).getD (i*2) .dead=.int .i64 (l.getD i default).1:=oZ pR (j:=0) l h (by omega)
theorem WA (l:List Nd) {i:Nat} (h:i<l.length):(recs pC l).getD (i*2+1) .dead=.int .i64 (l.getD i default).2:=oZ pR l h (by omega)
theorem yj (l:List A):(recs aC l).length=l.length*4:=vw aR l
theorem Tz (l:List Nd):(recs pC l).length=l.length*2:=vw pR l
theorem Nv (l:List Nd):aV (recs pC l)=true:=VM pR l
theorem U5 (l:List A):fH (recs aC l)=true:=Jl aR l
theorem YP (l:List Nd):fH (recs pC l)=true:=Jl pR l
theorem gQ (l:List A):stripL (recs aC l)=recs aC l:=Il aR l
theorem DY (l:List Nd):stripL (recs pC l)=recs pC l:=Il pR l
theorem zJ (l:List A) (a b c d:Int):recs aC l++[.int .i64 a,.int .i64 b,.int .i64 c,.int .i64 d]=recs aC (l++[⟨a,b,c,d⟩]):=zg l ⟨a,b,c,d⟩
theorem YR (l:List Nd) (a b:Int):recs pC l++[.int .i64 a,.int .i64 b]=recs pC (l++[(a,b)]):=zg l (a,b)
theorem uV (l:List A) {n:Nat} (h:n=l.length*4):win (recs aC l) 0 n=recs aC l:=Py aR l h
theorem ZB (l:List Nd) {n:Nat} (h:n=l.length*2):win (recs pC l) 0 n=recs pC l:=Py pR l h
theorem Xm:recs aC []=[]:=rfl
theorem ZX:recs pC []=[]:=rfl
attribute [go_sem] YC aaI YW aax WA yj Tz Nv U5 YP zJ YR uV ZB gQ DY Xm ZX okV
def dE (fin:List Bool) (al:List A):List HV:=[.sl fin.length (HL.bools fin),fB al]
def bF (ll:List (List A)):List HV:=ll.map fB
def dw (ll:List (List A)):List HV:=ll.map fun l=>.osl 4 l.length (VK l)
theorem Em (ll:List (List A)):(bF ll).length=ll.length:=by simp [bF]
theorem qw (ll:List (List A)):(dw ll).length=ll.length:=by simp [dw]
theorem ku (ll:List (List A)):stripL (dw ll)=bF ll:=by
 induction ll with
 | nil=>rfl
 | cons l ll ih=>simp only [dw,dV,stripL,HV.strip,gQ,bF] at ih ⊢;rw [ih];rfl
theorem Ja (ll:List (List A)) {i:Nat} (h:i<ll.length):(bF ll).getD i .dead=.sl (ll.getD i []).length (VK (ll.getD i [])):=by simp [bF,h,fB]
theorem Vj (ll:List (List A)) {i:Nat} (h:i<ll.length):(dw ll).getD i .dead=.osl 4 (ll.getD i []).length (VK (ll.getD i [])):=by simp [dw,h]
theorem zn (ll:List (List A)) (i:Nat) (l:List A) (d:HV) {n:Nat} (hn:n=l.length):((dw ll).set i d).set i (.osl 4 n (VK l))=dw (ll.set i l):=by subst hn;simp [dw,List.map_set]
def aG (p:A->Int) (n:Nat) (l:List A):List (List A):=(List.range n).map fun i:Nat=>l.filter fun a=>p a==(i:Int)
theorem dD (p:A->Int) (n:Nat) (l:List A):(aG p n l).length=n:=by simp [aG]
theorem xe (p:A->Int) (n:Nat):aG p n []=List.replicate n []:=by
 apply nN
 intro i
 simp only [aG,List.filter_nil,jd,Nq,JK]
 split<;>simp_all
theorem kV (p:A->Int) {n i:Nat} (l:List A) (h:i<n):(aG p n l).getD i []=l.filter fun a=>p a==(i:Int):=by simp [aG,h]
theorem wG {p:A->Int} {n i:Nat} {l:List A}:((aG p n l).getD i []).length<=l.length:=by
 by_cases h:i<n
 ·rw [kV p l h];exact List.length_filter_le _ _
 ·have:(aG p n l).getD i []=[]:=by simp [aG,h]
  rw [this];exact tu _
theorem uq {p:A->Int} {n:Nat} {l:List A} {a:A} {j:Nat} (hj:p a=(j:Int)):(aG p n l).set j ((aG p n l).getD j []++[a])=aG p n (l++[a]):=by
 apply nN
 intro i
 rw [vg]
 by_cases hi:i<n
 ·by_cases e:j=i
  ·subst e
   rw [kV p l hi]
   simp [aG,hi,hj]
  ·have:¬ (j:Int)=(i:Int):=by omega
   simp [aG,hi,e,hj,this]
 ·simp [aG,hi]
  intro e;omega
theorem Zf (n:Nat):(List.replicate n [HV.osl 4 0 []]).flatten=dw (List.replicate n []):=by
 induction n with
 | zero=>rfl
 | succ n ih=>rw [xB,Gz,ih];rfl
theorem wY (ll:List (List A)):dm (dw ll)=true:=by
 have hr:∀l:List A,dm (VK l)=true:=fun l=>by
  induction l with
  | nil=>rfl
  | cons a l ih=>simpa [recs,aC,dm,HV.noRd] using ih
 induction ll with
 | nil=>rfl
 | cons l ll ih=>simp only [dw,dV,dm,HV.noRd,hr,jf] at ih ⊢;exact ih
theorem UB (l:List Nd) (p q:Int):IR (l.map pk) (qC l.length) (.bool false) (.agg [.int .i64 p,.int .i64 q])=(.bool (decide ((p,q)∈l)),decide ((p,q)∈l)):=by
 rw [show HV.agg [.int .i64 p,.int .i64 q]=pk (p,q) from rfl,NR J6];congr
theorem Qg (l:List Nd) (id:Nat) (pa:List Nat) (p q:Int):uf id pa (l.map pk) (qC l.length) (.bool false) (.agg [.int .i64 p,.int .i64 q])=(.bool (decide ((p,q)∈l)),decide ((p,q)∈l)):=by
 rw [show HV.agg [.int .i64 p,.int .i64 q]=pk (p,q) from rfl,Ve J6];congr
theorem Eh (l:List Nd) (kd:KK) (p q:Int):zS ⟨kd,none⟩ (l.map pk) (qC l.length) (.agg [.int .i64 p,.int .i64 q]) (.bool true)=.omap ⟨kd,none⟩ ((ins (p,q) l).map pk) (qC (ins (p,q) l).length):=YE J6 (p,q) l
attribute [go_sem] UB Qg Eh Em qw ku Ja Vj Zf
end Go.Proofs.Ytlbdmpjnmfmnfaa
end
