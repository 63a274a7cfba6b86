import Derived.Test.YtjlidhijnohkbaaHb
import Derived.Test.YtjlidhijnohkbaaAuP
set_option linter.unusedSimpArgs false
set_option linter.unusedVariables false
namespace Go.Proofs.Ytjlidhijnohkbaa
open Go.HL Go.BF
def recs {α:Type} (g:α->List HV) (l:List α):List HV:=l.flatMap g
structure Rec {α:Type} (g:α->List HV) (k:Nat):Prop where
 len:∀x,(g x).length=k
 flat:∀x,aZ (g x)=true
 cell:∀x,fQ (g x)=true
 strip:∀x,stripL (g x)=g x
section
variable {α:Type} {g:α->List HV} {k:Nat}
theorem Ak (r:Rec g k) (l:List α):(recs g l).length=l.length*k:=by
 induction l with
 | nil=>simp [recs]
 | cons x l ih=>simp only [recs,List.flatMap_cons,kL,r.len,List.length_cons] at ih ⊢;rw [ih,qy];omega
theorem JX (r:Rec g k) (l:List α):fQ (recs g l)=true:=by
 simp only [fQ,recs,List.all_flatMap,zl014]
 intro x _ v hv
 exact zl014.1 (r.cell x) v hv
theorem Ko (l:List α) (x:α):recs g l++g x=recs g (l++[x]):=by simp [recs]
theorem J5 (r:Rec g k) (l:List α) (i:Nat):(recs g l).drop (i*k)=recs g (l.drop i):=by
 induction l generalizing i with
 | nil=>simp [recs]
 | cons x l ih =>
  cases i with
  | zero=>simp
  | succ i =>
   have:(i+1)*k=k+i*k:=by rw [qy];omega
   simp only [recs,List.flatMap_cons,List.drop_succ_cons] at ih ⊢
   rw [this,<- nR,List.drop_left' (r.len x)]
   exact ih i
theorem Ku (r:Rec g k) (l:List α) (i:Nat):(recs g l).take (i*k)=recs g (l.take i):=by
 induction l generalizing i with
 | nil=>simp [recs]
 | cons x l ih =>
  cases i with
  | zero=>simp [recs]
  | succ i =>
   have:(i+1)*k=k+i*k:=by rw [qy];omega
   simp only [recs,List.flatMap_cons,List.take_succ_cons] at ih ⊢
   rw [this,List.take_append,r.len,mW (by rw [r.len];omega),Nat.add_sub_cancel_left,ih i]
theorem JH (r:Rec g k) (l:List α) {o n:Nat} (h:o+n<=l.length):win (recs g l) (o*k) (n*k)=recs g ((l.drop o).take n):=by
 have e:((recs g l).drop (o*k)).take (n*k)=recs g ((l.drop o).take n):=by rw [J5 r,Ku r]
 unfold win
 split
 ·rename_i hc
  rw [<- e,hc.1,List.drop_zero,hc.2,lV]
 ·exact e
theorem Mc (r:Rec g k) (l:List α) {n:Nat} (h:n=l.length*k):win (recs g l) 0 n=recs g l:=kY _ (by rw [Ak r];exact h)
theorem LY [Inhabited α] (r:Rec g k) (l:List α) {i:Nat} (h:i<l.length):win (recs g l) (i*k) k=g (l.getD i default):=by
 have:=JH r l (o:=i) (n:=1) (by omega)
 rw [Nat.one_mul] at this
 rw [this,Ja h,List.take_succ_cons,List.take_zero]
 simp only [recs,List.flatMap_cons,List.flatMap_nil,List.append_nil]
 simp [h]
theorem yS [Inhabited α] (r:Rec g k) (l:List α) {i j:Nat} (h:i<l.length) (hj:j<k):(recs g l).getD (i*k+j) .dead=(g (l.getD i default)).getD j .dead:=by
 rw [<- LY r l h]
 have hl:=Ak r l
 have h2:i*k+k<=l.length*k:=by
  have:=BL k (show i+1<=l.length by omega)
  rw [qy] at this;omega
 simp only [dW]
 unfold win
 split
 ·rename_i hc;rw [hc.1,Nat.zero_add]
 ·rw [oO,if_pos hj,xH]
end
def eC (e:En):List HV:=[.int .i64 e.k,.int .i64 ((e.fr:Int) - 1),.int .i64 e.sy]
theorem QQ:Rec eC 3:=⟨fun _=>rfl,fun _=>rfl,fun _=>rfl,fun _=>rfl⟩
theorem Jb (L:List En) {i:Nat} (h:i<L.length):(recs eC L).getD (i*3) .dead=.int .i64 (L.getD i default).k:=yS QQ (j:=0) L h (by omega)
theorem IG (L:List En) {i:Nat} (h:i<L.length):(recs eC L).getD (i*3+1) .dead=.int .i64 (((L.getD i default).fr:Int) - 1):=yS QQ (j:=1) L h (by omega)
theorem Oa (L:List En) {i:Nat} (h:i<L.length):(recs eC L).getD (i*3+2) .dead=.int .i64 (L.getD i default).sy:=yS QQ (j:=2) L h (by omega)
theorem QA (L:List En):(recs eC L).length=L.length*3:=Ak QQ L
theorem OB (L:List En):fQ (recs eC L)=true:=JX QQ L
theorem Qn (L:List En) {n:Nat} (h:n=L.length*3):win (recs eC L) 0 n=recs eC L:=Mc QQ L h
theorem Ph (L:List En) (e:En):recs eC L++[.int .i64 e.k,.int .i64 ((e.fr:Int) - 1),.int .i64 e.sy]=recs eC (L++[e]):=Ko L e
attribute [go_sem] QA OB
theorem LV:∀ (n:Nat) (l:List Nat),l.Nodup->(∀x∈l,x<n)->l.length<=n:=by
 intro n
 induction n with
 | zero =>
  intro l _ h
  cases l with
  | nil=>simp
  | cons x l=>exact absurd (h x (by simp)) (AU _)
 | succ n ih =>
  intro l hl h
  have h1:=ih (l.erase n) (hl.erase _) fun x hx=>by
   have h2:=h x (List.mem_of_mem_erase hx)
   have h3:x≠n:=fun e=>by subst e;exact hl.not_mem_erase hx
   omega
  by_cases hm:n∈l
  ·rw [List.length_erase_of_mem hm] at h1;omega
  ·rw [List.erase_of_not_mem hm] at h1;omega
end Go.Proofs.Ytjlidhijnohkbaa
