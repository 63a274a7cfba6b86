import Derived.Test.YtlbdmpjnmfmnfaaHl5
set_option linter.unusedSimpArgs false
set_option linter.unusedVariables false
set_option linter.unnecessarySimpa false
namespace Go.HL
open Go.RowKit
def inT (l:List Nat):HX->Bool
 | .t i=>l.contains i
 | .c _=>false
def sD (l:List Nat):HX->Bool
 | .t i=>l.contains i
 | .c v=>v.deep.isEmpty
abbrev RS:=List Nat×List Nat×List Nat
def quiet (a:RS) (o:af):Bool:=match o.op with
 | .mv 0 x=>sD a.1 x
 | .mv (_+1) x=>inT a.2.1 x&&inT a.1 x
 | .iaddr _ x y=>sD a.1 x&&sD a.1 y
 | .load _ _ x=>sD a.1 x
 | .nilck x=>sD a.1 x
 | .faddr _ x=>sD a.1 x
 | .mlook _ _ z x k=>z.deep.isEmpty&&sD a.1 x&&sD a.1 k
 | .mlen x=>sD a.1 x
 | .len x=>sD a.1 x
 | .pick c x y=>sD a.1 c&&sD a.1 x&&sD a.1 y
 | .bin _ x y=>sD a.1 x&&sD a.1 y
 | .bld zs ps=>(aO zs).isEmpty&&ps.all fun q=>sD a.1 q.2.2
 | _=>false
def kU (a:RS) (o:af):Bool:=match o.op with
 | .mv _ x=>inT a.2.1 x
 | _=>false
def without (l:List Nat):Option Nat->List Nat
 | some t=>l.filter (· != t)
 | none=>l
def y5 (a:RS) (o:af):Bool:=match o.op with
 | .mv 0 x=>inT a.2.2 x
 | .mv (_+1) x=>inT a.2.2 x&&inT a.2.1 x
 | .iaddr _ x _=>inT a.2.2 x
 | _=>false
def zh (a:RS) (o:af):Bool:=match o.op with
 | .load _ _ x=>inT a.2.2 x
 | _=>false
def Be (a:RS) (o:af):Bool:=match o.op with
 | .bsl _ _ xs=>xs.all (sD a.1)
 | _=>false
def aah (o:af):Bool:=match o.op with
 | .call ..=>true
 | .callv ..=>true
 | _=>false
def more (c:Bool) (t:Nat) (l:List Nat):List Nat:=if c then t::l else l
def AX (nc:Bool) (a:RS) (o:af):RS:=match o.guard,o.dst with
 | none,some t=>(more (quiet a o || (nc&&aah o)) t (without a.1 o.dst),more (kU a o) t (without a.2.1 o.dst),more (y5 a o) t (without a.2.2 o.dst))
 | some _,some t=>(more (quiet a o || (nc&&aah o)) t (without a.1 o.dst),without a.2.1 o.dst,without a.2.2 o.dst)
 | _,_=>(without a.1 o.dst,without a.2.1 o.dst,without a.2.2 o.dst)
def rG (nc:Bool) (ops:List af) (a0:RS) (i:Nat):RS:=(ops.take i).foldl (AX nc) a0
def wE (nc:Bool) (masks:List Nat) (all:List af) (a0:RS):Bool :=
 (List.range all.length).all fun i=>(List.range i).all fun k=>wo masks k i || (match all[k]?,all[i]? with|some x,some y=>!VH x y || quiet (rG nc all a0 k) x || quiet (rG nc all a0 i) y || Be (rG nc all a0 i) y || (Be (rG nc all a0 k) x&&zh (rG nc all a0 i) y)|_,_=>true)
def F0:Nat->Prop:=fun _=>False
structure RI (nx:Nat) (a:RS) (S:Lk):Prop where
 ro:∀t∈a.1,(S t).inn F0
 nn:∀t∈a.2.1,S t≠.nils
 old:∀t∈a.2.2,(S t).inn (·<nx)
theorem aea {v:HV} (h:v.inn F0):v.deep=[]:=zl052.2 fun x hx=>h x hx
theorem kH {nx:Nat} {a:RS} {S:Lk} (h:RI nx a S) {x:HX} (hx:sD a.1 x=true):(bZ S x).inn F0:=by
 cases x with
 | t i=>exact h.ro i (by simpa [sD] using hx)
 | c v =>
  have hd:v.deep=[]:=by simpa [sD,EF] using hx
  intro y hy
  simp only [bZ,hd] at hy
  cases hy
theorem PS {l:List Nat} {x:HX} (h:inT l x=true):sD l x=true:=by cases x<;>simp_all [inT,sD]
theorem KR {nx:Nat} {a:RS} {S:Lk} (h:RI nx a S) {x:HX} (hx:inT a.2.1 x=true):bZ S x≠.nils:=by
 cases x with
 | t i=>exact h.nn i (by simpa [inT] using hx)
 | c v=>cases hx
theorem JW {nx:Nat} {a:RS} {S:Lk} {o:af} (h:RI nx a S) (hq:quiet a o=true):aO (o.op.map (bZ S)).vals=[]:=by
 obtain ⟨d,op,g⟩:=o
 have one:∀ {x:HX},sD a.1 x=true->(bZ S x).deep=[]:=fun hx=>aea (kH h hx)
 cases op<;>simp only [quiet] at hq<;>(try cases hq)
 case mv n x=>cases n with
  | zero=>simp [HOp.map,HOp.vals,aO,one hq]
  | succ n=>simp only [bC] at hq;simp [HOp.map,HOp.vals,aO,one (PS hq.2)]
 case pick=>simp only [bC] at hq;simp [HOp.map,HOp.vals,aO,one hq.1.1,one hq.1.2,one hq.2]
 case bin=>simp only [bC] at hq;simp [HOp.map,HOp.vals,aO,one hq.1,one hq.2]
 case load b sz x=>simp [HOp.map,HOp.vals,aO,one hq]
 case nilck x=>simp [HOp.map,HOp.vals,aO,one hq]
 case faddr d x=>simp [HOp.map,HOp.vals,aO,one hq]
 case mlook ok kk z x k=>simp only [bC] at hq;simp [HOp.map,HOp.vals,aO,one hq.1.2,one hq.2]
 case mlen x=>simp [HOp.map,HOp.vals,aO,one hq]
 case iaddr=>simp only [bC] at hq;simp [HOp.map,HOp.vals,aO,one hq.1,one hq.2]
 case len=>simp [HOp.map,HOp.vals,aO,one hq]
 case bld zs ps =>
  simp only [bC,zl021] at hq
  refine zl052.2 fun x hx=>?_
  obtain ⟨v,hv,hxv⟩:=mem_deepL.1 hx
  simp only [HOp.map,HOp.vals,mW,zl031,Function.comp] at hv
  obtain ⟨q,hq1,rfl⟩:=hv
  rw [one (hq.2 q hq1)] at hxv
  cases hxv
theorem UM {nx:Nat} {a:RS} {S:Lk} (h:RI nx a S) {zs:List HV} {ps:List (Nat×Nat×HX)} (hq:((aO zs).isEmpty&&ps.all fun q=>sD a.1 q.2.2)=true):(HV.agg (pJ zs (ps.map fun p=>(p.1,p.2.1,bZ S p.2.2))).1).inn F0:=by
 simp only [bC,zl021,EF] at hq
 have h1:innL F0 zs:=innL_iff.2 (by rw [hq.1];simp)
 have h2:=N7 (ps:=ps.map fun p=>(p.1,p.2.1,bZ S p.2.2)) h1 (fun q hq'=>by
  obtain ⟨p,hp,rfl⟩:=zl031.1 hq'
  exact kH h (hq.2 p hp))
 intro x hx
 exact innL_iff.1 h2 x hx
theorem Jz {nx:Nat} {a:RS} {S:Lk} {o:af} (h:RI nx a S) (hq:quiet a o=true) (L:Lk) (fr:Nat):(ak L fr (o.op.map (bZ S))).2.1=[]/\(ak L fr (o.op.map (bZ S))).1.inn F0/\(kU a o=true->(ak L fr (o.op.map (bZ S))).1≠.nils):=by
 obtain ⟨d,op,g⟩:=o
 cases op<;>simp only [quiet] at hq<;>(try cases hq)
 case mv n x=>cases n with
  | zero=>exact ⟨by cases hv:bZ S x<;>simp [HOp.map,ak,hv],by have:=kH h hq;cases hv:bZ S x<;>simpa [HOp.map,ak,hv] using this,fun hk=>by have:=KR h hk;cases hv:bZ S x<;>simp_all [HOp.map,ak]⟩
  | succ n =>
   simp only [bC] at hq
   have h1:=KR h hq.1
   have h2:=kH h (PS hq.2)
   refine ⟨by cases hv:bZ S x<;>simp_all [HOp.map,ak],by cases hv:bZ S x<;>simp_all [HOp.map,ak],fun _=>by cases hv:bZ S x<;>simp_all [HOp.map,ak]⟩
 case pick c x y =>
  simp only [bC] at hq
  have h1:=kH h hq.1.2
  have h2:=kH h hq.2
  refine ⟨?_,?_,fun hk=>by simp [kU] at hk⟩
  ·simp only [HOp.map,ak]
   repeat' split
   all_goals rfl
  ·simp only [HOp.map,ak]
   split
   ·split
    ·intro z hz;cases hz
    ·simp only;split
     ·exact h1
     ·exact h2
   ·exact dh
 case bin op x y=>exact ⟨rfl,RZ,fun hk=>by simp [kU] at hk⟩
 case load b sz x =>
  have h1:=kH h hq
  refine ⟨?_,?_,fun hk=>by simp [kU] at hk⟩
  ·cases b<;>cases hv:bZ S x<;>simp [HOp.map,ak,hv]
  ·cases b<;>cases hv:bZ S x<;>(simp only [HOp.map,ak,hv];rw [hv] at h1)
   all_goals first|exact dh|skip
   ·simp only [Fe] at h1;exact h1.getD _
   ·exact (show False from h1 _ (zl009.2 rfl)).elim
   ·simp only [Fe] at h1;simp only [if_true,uM];exact h1.win _ _
   ·exact (show False from h1 _ (zl009.2 rfl)).elim
 case nilck x =>
  have h1:=kH h hq
  refine ⟨?_,?_,fun hk=>by simp [kU] at hk⟩
  ·cases hv:bZ S x<;>simp [HOp.map,ak,hv]
  ·cases hv:bZ S x<;>(simp only [HOp.map,ak,hv];rw [hv] at h1)
   all_goals first|exact dh|exact h1
 case faddr d x =>
  have h1:=kH h hq
  refine ⟨?_,?_,fun hk=>by simp [kU] at hk⟩
  ·cases hv:bZ S x<;>simp [HOp.map,ak,hv]
  ·cases hv:bZ S x<;>(simp only [HOp.map,ak,hv];rw [hv] at h1)
   all_goals first|exact dh|skip
   ·simpa using h1
   ·exact (show False from h1 _ (zl009.2 rfl)).elim
 case mlook ok kk z x k =>
  simp only [bC,EF] at hq
  have hz:z.inn F0:=fun y hy=>by rw [hq.1.1] at hy;cases hy
  have h1:=kH h hq.1.2
  refine ⟨?_,?_,fun hk=>by simp [kU] at hk⟩
  ·simp only [HOp.map,ak]
   repeat' split
   all_goals rfl
  ·simp only [HOp.map,ak]
   cases hv:bZ S x<;>(simp only;rw [hv] at h1)
   all_goals first|exact dh|skip
   ·exact uD hz
   ·simp only [HY] at h1
    split
    ·exact uD (h1.getD _)
    ·exact uD hz
   ·exact (show False from h1 _ (zl009.2 rfl)).elim
 case mlen x =>
  have h1:=kH h hq
  refine ⟨?_,?_,fun hk=>by simp [kU] at hk⟩
  ·cases hv:bZ S x<;>simp only [HOp.map,ak,hv]<;>split<;>rfl
  ·cases hv:bZ S x<;>simp only [HOp.map,ak,hv]<;>first|exact kW|exact dh|(split<;>first|exact kW|exact dh)
 case iaddr sz x y =>
  simp only [bC] at hq
  have h1:=kH h hq.1
  refine ⟨?_,?_,fun hk=>by simp [kU] at hk⟩
  ·cases hv:bZ S y<;>cases hw:bZ S x<;>simp [HOp.map,ak,hv,hw]
  ·cases hv:bZ S y<;>cases hw:bZ S x<;>(simp only [HOp.map,ak,hv,hw];rw [hw] at h1)
   all_goals first|exact dh|skip
   ·simpa using h1
   ·exact (show False from h1 _ (zl009.2 rfl)).elim
 case bld zs ps=>exact ⟨rfl,UM h hq,fun hk=>by simp [kU] at hk⟩
 case len x =>
  refine ⟨by cases hv:bZ S x<;>simp [HOp.map,ak,hv],?_,fun hk=>by simp [kU] at hk⟩
  cases hv:bZ S x<;>simp only [HOp.map,ak,hv]<;>first|exact kW|exact dh
theorem FN {nx:Nat} {a:RS} {S:Lk} {o:af} (h:(∃f xs,o.op.map (bZ S)=.call f xs)\/∃x xs,o.op.map (bZ S)=.callv x xs):(∀t ids,(quiet a o=true->t=([]:List Nat)/\ids=([]:List Nat))/\(zh a o=true->t=[]/\∀x∈ids,x<nx)/\(Be a o=true->(∀i,∀x∈t,Cm nx i x)/\ids=[]))/\(quiet a o=false/\kU a o=false/\y5 a o=false):=by
 obtain ⟨d,op,g⟩:=o
 cases op<;>simp_all [HOp.map,quiet,zh,Be,kU,y5]
theorem Xc {us:List Upd}:∀ {S:Lk} {t:Nat},(S t).inn F0->(yR S us t).inn F0:=by
 induction us with
 | nil=>intro S t h;exact h
 | cons u r ih=>intro S t h;cases u with
  | put=>exact ih h
  | kill id len=>exact ih (S:=fun t=>(S t).kill id len) (BO id len _ h)
theorem Zi {v:HV} (h:v≠.nils) (id len:Nat):v.kill id len≠.nils:=by
 cases v<;>simp_all [HV.kill]<;>split<;>simp
theorem ab1 {us:List Upd}:∀ {S:Lk} {t:Nat},S t≠.nils->yR S us t≠.nils:=by
 induction us with
 | nil=>intro S t h;exact h
 | cons u r ih=>intro S t h;cases u with
  | put=>exact ih h
  | kill id len=>exact ih (S:=fun t=>(S t).kill id len) (Zi h id len)
theorem yT {l:List Nat} {d:Option Nat} {t:Nat} (h:t∈without l d):t∈l/\d≠some t:=by
 cases d with
 | none=>exact ⟨h,by simp⟩
 | some k =>
  simp only [without,zl042,bne_iff_ne,ne_eq] at h
  exact ⟨h.1,fun e=>h.2 (by cases e;rfl)⟩
theorem WM {p:Nat->Prop} {us:List Upd}:∀ {S:Lk} {t:Nat},(S t).inn p->(yR S us t).inn p:=by
 induction us with
 | nil=>intro S t h;exact h
 | cons u r ih=>intro S t h;cases u with
  | put=>exact ih h
  | kill id len=>exact ih (S:=fun t=>(S t).kill id len) (BO id len _ h)
theorem Qk {nx:Nat} {a:RS} {S:Lk} {o:af} (h:RI nx a S) (hq:kU a o=true) (L:Lk) (fr:Nat):(ak L fr (o.op.map (bZ S))).1≠.nils:=by
 obtain ⟨d,op,g⟩:=o
 cases op<;>simp only [kU] at hq<;>(try cases hq)
 rename_i n x
 have h1:=KR h hq
 cases n<;>cases hv:bZ S x<;>simp_all [HOp.map,ak]
theorem Fh {nx:Nat} {a:RS} {S:Lk} (h:RI nx a S) {x:HX} (hx:inT a.2.2 x=true):(bZ S x).inn (·<nx):=by
 cases x with
 | t i=>exact h.old i (by simpa [inT] using hx)
 | c v=>cases hx
theorem QL {nx:Nat} {a:RS} {S:Lk} {o:af} (h:RI nx a S) (hq:y5 a o=true) (L:Lk) (fr:Nat):(ak L fr (o.op.map (bZ S))).1.inn (·<nx):=by
 obtain ⟨d,op,g⟩:=o
 cases op<;>simp only [y5] at hq<;>(try cases hq)
 case mv n x=>cases n with
  | zero =>
   have h1:=Fh h hq
   cases hv:bZ S x<;>(rw [hv] at h1;simpa [HOp.map,ak,hv] using h1)
  | succ n =>
   simp only [bC] at hq
   have h1:=Fh h hq.1
   have h2:=KR h hq.2
   cases hv:bZ S x<;>first|exact absurd hv h2|(rw [hv] at h1;simpa [HOp.map,ak,hv] using h1)
 case iaddr sz x y =>
  have h1:=Fh h hq
  cases hv:bZ S y<;>cases hw:bZ S x<;>(simp only [HOp.map,ak,hv,hw];rw [hw] at h1)
  all_goals first|exact dh|skip
  ·simpa using h1
  ·intro z hz
   exact h1 z hz
theorem yL {nx:Nat} {a:RS} {S:Lk} {o:af} (h:RI nx a S) (hq:zh a o=true) (L:Lk) (fr:Nat):(ak L fr (o.op.map (bZ S))).2.1=[]/\∀x∈fO o S,x<nx:=by
 obtain ⟨d,op,g⟩:=o
 cases op<;>simp only [zh] at hq<;>(try cases hq)
 rename_i b sz x
 have h1:=Fh h hq
 refine ⟨?_,fun z hz=>h1 z ?_⟩
 ·cases hv:bZ S x<;>cases b<;>simp [HOp.map,ak,hv]
 ·simpa [fO,HOp.map,HOp.vals,aO] using hz
theorem Vf {L:Lk} {v:HV} (h:v.deep=[]):(takeC L v).2.1=[]:=by
 cases v<;>simp_all [takeC,HV.deep]
theorem UV:∀ {l:List HV} {L:Lk},aO l=[]->(iC L l).2.1=[]:=by
 intro l
 induction l with
 | nil=>intro L _;rfl
 | cons v r ih =>
  intro L h
  simp only [aO,List.append_eq_nil_iff] at h
  simp only [iC,Vf h.1,Lk.upd,List.nil_append]
  exact ih h.2
theorem A8 {nx:Nat} {a:RS} {S:Lk} {o:af} (h:RI nx a S) (hq:Be a o=true) (L:Lk) (fr:Nat):jG (ak L fr (o.op.map (bZ S))).2.1=[fr]/\fO o S=[]:=by
 obtain ⟨d,op,g⟩:=o
 cases op<;>simp only [Be] at hq<;>(try cases hq)
 rename_i sz n xs
 have hd:aO (xs.map (bZ S))=[]:=by
  rw [zl052]
  intro z hz
  rw [mem_deepL] at hz
  obtain ⟨v,hv,hz⟩:=hz
  obtain ⟨x,hx,rfl⟩:=zl031.1 hv
  have:=aea (kH h (zl021.1 hq x hx))
  rw [this] at hz;cases hz
 have hd2:aO ((xs.map (bZ S)).flatMap cellsOf)=[]:=by
  rw [zl052]
  intro z hz
  have:=DR hz
  rw [hd] at this;cases this
 refine ⟨?_,by simpa [fO,HOp.map,HOp.vals] using hd⟩
 simp only [HOp.map,ak,UV hd2,List.nil_append]
 rfl
theorem RI.rest {nx:Nat} {a:RS} {S:Lk} (h:RI nx a S) {o:af} (e:HV×List Upd):RI nx (without a.1 o.dst,without a.2.1 o.dst,without a.2.2 o.dst) (oO o e S):=by
 refine ⟨fun t ht=>?_,fun t ht=>?_,fun t ht=>?_⟩
 ·obtain ⟨h1,h2⟩:=yT ht
  simp only [oO,if_neg h2]
  exact Xc (h.ro t h1)
 ·obtain ⟨h1,h2⟩:=yT ht
  simp only [oO,if_neg h2]
  exact ab1 (h.nn t h1)
 ·obtain ⟨h1,h2⟩:=yT ht
  simp only [oO,if_neg h2]
  exact WM (h.old t h1)
theorem Du {c:Bool} {t u:Nat} {l:List Nat} (h:u∈more c t l):(c=true/\u=t)\/u∈l:=by
 unfold more at h
 split at h
 ·rename_i hc
  rcases zl011.1 h with h|h
  ·exact .inl ⟨hc,h⟩
  ·exact .inr h
 ·exact .inr h
theorem RI.step {nc:Bool} {nx:Nat} {a:RS} {S:Lk} (h:RI nx a S) {o:af} (e:HV×List Upd) (h1:(quiet a o || (nc&&aah o))=true->e.1.inn F0) (h2:o.guard=none->kU a o=true->e.1≠.nils) (h3:o.guard=none->y5 a o=true->e.1.inn (·<nx)):RI nx (AX nc a o) (oO o e S):=by
 have hr:=h.rest (o:=o) e
 unfold AX
 split
 ·rename_i t hg hd
  refine ⟨fun u hu=>?_,fun u hu=>?_,fun u hu=>?_⟩
  ·rcases Du hu with ⟨hc,rfl⟩|hu
   ·simp only [oO,hd,if_true];exact h1 hc
   ·exact hr.ro u hu
  ·rcases Du hu with ⟨hc,rfl⟩|hu
   ·simp only [oO,hd,if_true];exact h2 hg hc
   ·exact hr.nn u hu
  ·rcases Du hu with ⟨hc,rfl⟩|hu
   ·simp only [oO,hd,if_true];exact h3 hg hc
   ·exact hr.old u hu
 ·rename_i t hg hd
  refine ⟨fun u hu=>?_,hr.nn,hr.old⟩
  rcases Du hu with ⟨hc,rfl⟩|hu
  ·simp only [oO,hd,if_true];exact h1 hc
  ·exact hr.ro u hu
 ·exact hr
theorem RI.loud {nc:Bool} {nx:Nat} {a:RS} {S:Lk} (h:RI nx a S) {o:af} (hq:quiet a o=false/\kU a o=false/\y5 a o=false) (e:HV×List Upd) (hn:nc=true->e.1.inn F0):RI nx (AX nc a o) (oO o e S) :=
 h.step e (fun hh=>hn (by rw [hq.1,kE] at hh;exact (Bool.and_eq_true_iff.1 hh).1)) (fun _ h=>by rw [hq.2.1] at h;cases h) (fun _ h=>by rw [hq.2.2] at h;cases h)
theorem RI.skip {nc:Bool} {nx:Nat} {a:RS} {S:Lk} (h:RI nx a S) {o:af} (hg:o.guard≠none) {e:HV×List Upd} (hn:e.1.inn F0):RI nx (AX nc a o) (oO o e S) :=
 h.step e (fun _=>hn) (fun h=>absurd h hg) (fun h=>absurd h hg)
theorem RI.exec {nc:Bool} {nx:Nat} {a:RS} {S M:Lk} {fr:Nat} (h:RI nx a S) {o:af}:RI nx (AX nc a o) (oO o ((ak M fr (o.op.map (bZ S))).1,(ak M fr (o.op.map (bZ S))).2.1) S) :=
 h.step _ (fun hq=>by
  rcases Bool.or_eq_true_iff.1 hq with hq|hq
  ·exact (Jz h hq M fr).2.1
  ·obtain ⟨d,op,g⟩:=o
   replace hq:=(Bool.and_eq_true_iff.1 hq).2
   cases op<;>simp only [aah] at hq<;>(first|exact dh|cases hq)) (fun _ hq=>Qk h hq M fr) (fun _ hq=>QL h hq M fr)
def Told (nx:Nat) (a:RS) (o:af) (i:Nat) (t ids:List Nat):Prop :=
 (quiet a o=true->t=[]/\ids=[])/\(zh a o=true->t=[]/\∀x∈ids,x<nx)/\(Be a o=true->(∀x∈t,Cm nx i x)/\ids=[])
def SS (nx:Nat) (a:RS) (o:af) (i:Nat) (W R:List Nat):Prop:=∃t ids,Told nx a o i t ids/\(∀c∈W,c / 2∈t)/\∀c∈R,c / 2∈ids
theorem Told.e {nx:Nat} {a:RS} {o o2:af} {i:Nat} {us:List Upd} {S:Lk} (h:Told nx a o i (jG us) (fO o2 S)):SS nx a o i (uK o2 S us) (lV o2 S):=⟨_,_,h,fun _ hc=>OA hc,fun _ hc=>y9 hc⟩
theorem PT {nc:Bool} {P:Program} {D:FuncId->List HV->HV->Prop} {ops:List af} {masks:List Nat} {nx:Nat} {K:St->Prop} {a0:RS} (hlit:∀ (i:Nat) (o:af),ops[i]?=some o->qL o=true) (hDn:nc=true->∀f args r,D f args r->∀fr,(unpack fr r).1.inn F0) (hns:wE nc masks ops a0=true):∀ (rest:List af) (i:Nat) (log:nP) (s:St),ops.drop i=rest->s.nx=nx->(∀q∈log,q.1<i)->(∀q∈log,∀o,ops[q.1]?=some o->SS nx (rG nc ops a0 q.1) o q.1 q.2.1 q.2.2)->RI nx (rG nc ops a0 i) s.S->Inv nx (fun k=>k<i) s.S s.M->(∀q∈log,∀x∈q.2.2,wK nx (fun k=>k<q.1) (x / 2))->hops (CS P D) ops rest i K s ->
  dr (HT2 P) (DS.of D) ops masks nx (fun S M=>∃s':St,s'.S=S/\s'.M=M/\s'.nx=nx/\K s') (List.range' i rest.length) log s.S s.M:=by
 intro rest
 induction rest with
 | nil=>intro i log s _ hnx _ _ _ _ _ h;exact ⟨s,rfl,rfl,hnx,h⟩
 | cons o rest ih =>
  intro i log s hdrop hnx hlog hlq hRI hI hlb h
  have hoi:ops[i]?=some o:=by
   have:=congrArg (fun l:List af=>l[0]?) hdrop
   simpa using this
  have hdrop':ops.drop (i+1)=rest:=by
   have:=congrArg (List.drop 1) hdrop
   simpa [sZ,lT] using this
  simp only [List.length_cons,Hy]
  have hil:=(zl036.1 hoi).1
  have ck:∀e:HV×List Upd,Told nx (rG nc ops a0 i) o i (jG e.2) (fO o s.S)->∀q∈log,chk (fun _=>false) masks ops i o e s.S q:=by
   intro e he q hq b1 _ o' ho' hs
   have hlt:=hlog q hq
   obtain ⟨t,ids,hl,hlt1,hlt2⟩:=hlq q hq o' ho'
   simp only [wE,zl021,zl050,Iy] at hns
   have h:=hns i hil q.1 hlt
   rw [ho',hoi] at h
   simp only [Iy,Ap,bC] at h
   have w2:=fun c (hc:c∈uK o s.S e.2)=>OA hc
   have r2:=fun c (hc:c∈lV o s.S)=>y9 hc
   rw [Ik] at hs
   rcases h with h|(((h|h)|h)|h)|h
   ·rw [b1] at h;cases h
   ·rw [h] at hs;cases hs
   ·obtain ⟨p1,p2⟩:=hl.1 h
    rw [p1] at hlt1
    rw [p2] at hlt2
    exact ⟨fun x _ hx=>by have:=hlt2 x hx;simp at this,fun x hx=>by have:=hlt1 x hx;simp at this⟩
   ·obtain ⟨p1,p2⟩:=he.1 h
    rw [p1] at w2
    rw [p2] at r2
    exact ⟨fun x hx=>by have:=w2 x hx;simp at this,fun x _ hx=>by have:=r2 x hx;simp at this⟩
   ·obtain ⟨p3,p4⟩:=he.2.2 h
    rw [p4] at r2
    refine ⟨fun x hx hx'=>?_,fun x _ hx'=>by have:=r2 x hx';simp at this⟩
    have h3:=p3 _ (w2 x hx)
    have h4:=hlb q hq x hx'
    rcases h4 with h4|⟨k,h4,h5⟩
    ·unfold Cm at h3;omega
    ·have:k+1<=i:=by omega
     have:=Nat.mul_le_mul_left stride this
     unfold Cm at h3 h5
     omega
   ·obtain ⟨p1,p2⟩:=hl.2.2 h.1
    obtain ⟨p3,p4⟩:=he.2.1 h.2
    rw [p3] at w2
    refine ⟨fun x hx=>by have:=w2 x hx;simp at this,fun x hx hx'=>?_⟩
    have h5:=p1 _ (hlt1 x hx)
    have h6:=p4 _ (r2 x hx')
    unfold Cm at *
    omega
  have hacc:rG nc ops a0 (i+1)=AX nc (rG nc ops a0 i) o:=by
   unfold rG
   rw [SK hil,List.foldl_append]
   have:ops[i]=o:=by rw [bM hil] at hoi;exact F7 hoi
   rw [this];rfl
  have hent:∀us:List Upd,Told nx (rG nc ops a0 i) o i (jG us) (fO o s.S)->∀q∈(i,uK o s.S us,lV o s.S)::log,∀o',ops[q.1]?=some o'->SS nx (rG nc ops a0 q.1) o' q.1 q.2.1 q.2.2:=by
   intro us hus q hq o' ho'
   rcases zl011.1 hq with rfl|hq
   ·rw [hoi] at ho'
    cases ho'
    exact hus.e
   ·exact hlq q hq o' ho'
  have tskip:Told nx (rG nc ops a0 i) o i (jG []) (fO o s.S):=⟨fun h=>⟨rfl,JW hRI h⟩,fun h=>⟨rfl,(yL hRI h s.M 0).2⟩,fun h=>⟨by simp [jG],(A8 hRI h s.M 0).2⟩⟩
  have stepS:∀ (us:List Upd) (v:HV),((s.upd us).put o.dst v).S=oO o (v,us) s.S:=fun us v=>by rw [St.put_S,St.upd_S];rfl
  have stepM:∀ (us:List Upd) (v:HV),((s.upd us).put o.dst v).M=xN (v,us) s.M:=fun us v=>by rw [St.put_M,St.upd_M];rfl
  have hids:∀x∈fO o s.S,wK nx (fun k=>k<i) x:=fun x hx=>innL_iff.1 (Dl hI (hlit i o hoi)) x hx
  have inv:∀e,gm (HT2 P) (DS.of D) ops (nx+stride*i) o s.S s.M->jF (DS.of D) ops (nx+stride*i) o s.S s.M e->Inv nx (fun k=>k<i+1) (oO o e s.S) (xN e s.M):=fun e hs hre=>by
   obtain ⟨f1,f2,_,_⟩:=um hI (hlit i o hoi) hs hre
   have h1:=hI.step (o:=o) f1 f2
   have h2:(fun k=>k<i\/k=i)=(fun k=>k<i+1):=by funext k;exact propext ⟨fun h=>by omega,fun h=>by omega⟩
   rw [h2] at h1
   exact h1
  have next:∀ (us:List Upd) (v:HV) ent,ent.1=i->ent.2.2=lV o s.S->(∀q∈ent::log,∀o',ops[q.1]?=some o'->SS nx (rG nc ops a0 q.1) o' q.1 q.2.1 q.2.2)->RI nx (rG nc ops a0 (i+1)) ((s.upd us).put o.dst v).S->Inv nx (fun k=>k<i+1) (oO o (v,us) s.S) (xN (v,us) s.M)->hops (CS P D) ops rest (i+1) K ((s.upd us).put o.dst v)->dr (HT2 P) (DS.of D) ops masks nx (fun S M=>∃s':St,s'.S=S/\s'.M=M/\s'.nx=nx/\K s') (List.range' (i+1) rest.length) (ent::log) (oO o (v,us) s.S) (xN (v,us) s.M):=by
   intro us v ent he he2 hent hri hI' h'
   have:=ih (i+1) (ent::log) ((s.upd us).put o.dst v) hdrop' (by rw [St.put_nx,St.upd_nx];exact hnx) (fun q hq=>by
    rcases zl011.1 hq with rfl|hq
    ·omega
    ·have:=hlog q hq;omega) hent hri (by rw [stepS,stepM];exact hI') (fun q hq x hx=>by
    rcases zl011.1 hq with rfl|hq
    ·rw [he2] at hx;rw [he];exact hids _ (y9 hx)
    ·exact hlb q hq x hx) h'
   rw [stepS,stepM] at this
   exact this
  have hstr:s.nx+stride*(i+1)=nx+stride*i+stride:=by rw [hnx];unfold stride;omega
  have run:gd ops o s.S=some true->hop (CS P D) s i o (hops (CS P D) ops rest (i+1) K)->∃o',ops[i]?=some o'/\gm (HT2 P) (DS.of D) ops (nx+stride*i) o' s.S s.M/\(∃e,jF (DS.of D) ops (nx+stride*i) o' s.S s.M e)/\∀e,jF (DS.of D) ops (nx+stride*i) o' s.S s.M e->(∀q∈log,chk (fun _=>false) masks ops i o' e s.S q)/\dr (HT2 P) (DS.of D) ops masks nx (fun S M=>∃s':St,s'.S=S/\s'.M=M/\s'.nx=nx/\K s') (List.range' (i+1) rest.length) ((i,uK o' s.S e.2,lV o' s.S)::log) (oO o' e s.S) (xN e s.M):=by
   intro hg hh
   refine ⟨o,hoi,?_⟩
   unfold gm jF
   rw [hg]
   simp only
   have hM:(fun i=>ax i s.st)=s.M:=rfl
   replace hh:=hh.resolve_right (fun h=>h)
   unfold hop0 at hh
   rw [jl,hM,hstr,hnx] at hh
   have callc:∀ (f:FuncId) (args xs:List HV),(∀t ids,Told nx (rG nc ops a0 i) o i t ids)/\(quiet (rG nc ops a0 i) o=false/\kU (rG nc ops a0 i) o=false/\y5 (rG nc ops a0 i) o=false)->((HT P f args (D f args)/\∀r,D f args r->r.deep=[]->(aJ xs || r.noRd)=true/\(unpack (nx+stride*i) r).2.2<=nx+stride*i+stride)->gm (HT2 P) (DS.of D) ops (nx+stride*i) o s.S s.M)->(∀e:HV×List Upd,(∃r,D f args r/\r.deep=[]/\e=((unpack (nx+stride*i) r).1,(unpack (nx+stride*i) r).2.1))->jF (DS.of D) ops (nx+stride*i) o s.S s.M e)->(CS P D f args fun r=>(aJ xs || r.noRd)=true/\(unpack (nx+stride*i) r).2.2<=nx+stride*i+stride/\hops (CS P D) ops rest (i+1) K ((s.upd (unpack (nx+stride*i) r).2.1).put o.dst (unpack (nx+stride*i) r).1)) ->
     (HT P f args (D f args)/\∀r,D f args r->r.deep=[]->(aJ xs || r.noRd)=true/\(unpack (nx+stride*i) r).2.2<=nx+stride*i+stride)/\(∃e:HV×List Upd,∃r,D f args r/\r.deep=[]/\e=((unpack (nx+stride*i) r).1,(unpack (nx+stride*i) r).2.1)) /\
     ∀e:HV×List Upd,(∃r,D f args r/\r.deep=[]/\e=((unpack (nx+stride*i) r).1,(unpack (nx+stride*i) r).2.1))->(∀q∈log,chk (fun _=>false) masks ops i o e s.S q)/\dr (HT2 P) (DS.of D) ops masks nx (fun S M=>∃s':St,s'.S=S/\s'.M=M/\s'.nx=nx/\K s') (List.range' (i+1) rest.length) ((i,uK o s.S e.2,lV o s.S)::log) (oO o e s.S) (xN e s.M):=by
    rintro f args xs hnq hf1 hf2 ⟨c1,⟨r0,c2,c3⟩,c4⟩
    have hsd:HT P f args (D f args)/\∀r,D f args r->r.deep=[]->(aJ xs || r.noRd)=true/\(unpack (nx+stride*i) r).2.2<=nx+stride*i+stride:=⟨c1,fun r a b=>⟨(c4 r a b).1,(c4 r a b).2.1⟩⟩
    refine ⟨hsd,⟨_,r0,c2,c3,rfl⟩,?_⟩
    rintro e ⟨r,d1,d2,rfl⟩
    exact ⟨ck _ (hnq.1 _ _),next _ _ _ rfl rfl (hent _ (hnq.1 _ _)) (by rw [hacc,stepS];exact RI.loud hRI hnq.2 _ (fun hnc=>hDn hnc _ _ _ d1 _)) (inv _ (hf1 hsd) (hf2 _ ⟨r,d1,d2,rfl⟩)) (c4 r d1 d2).2.2⟩
   split at hh
   ·rename_i f xs heq
    rw [heq]
    have hq:=FN (nx:=nx) (a:=rG nc ops a0 i) (.inl ⟨f,xs,heq⟩)
    exact callc f _ xs ⟨fun t ids=>⟨(hq.1 t ids).1,(hq.1 t ids).2.1,fun h=>⟨((hq.1 t ids).2.2 h).1 i,((hq.1 t ids).2.2 h).2⟩⟩,hq.2⟩ (fun h=>by unfold gm;rw [hg];simp only;rw [heq];exact h) (fun e h=>by unfold jF;rw [hg];simp only;rw [heq];exact h) hh
   ·rename_i f cap xs heq
    rw [heq]
    have hq:=FN (nx:=nx) (a:=rG nc ops a0 i) (.inr ⟨_,xs,heq⟩)
    exact callc f _ (xs++cap) ⟨fun t ids=>⟨(hq.1 t ids).1,(hq.1 t ids).2.1,fun h=>⟨((hq.1 t ids).2.2 h).1 i,((hq.1 t ids).2.2 h).2⟩⟩,hq.2⟩ (fun h=>by unfold gm;rw [hg];simp only;rw [heq];exact h) (fun e h=>by unfold jF;rw [hg];simp only;rw [heq];exact h) hh
   ·rename_i op h1 h2
    have e1:mr (HT2 P) (DS.of D) s.M (nx+stride*i) (o.op.map (bZ s.S))=(ak s.M (nx+stride*i) (o.op.map (bZ s.S))).2.2:=by
     unfold mr;split
     ·rename_i f xs heq;exact absurd heq (h1 f xs)
     ·rename_i f cap xs heq;exact absurd heq (h2 f cap xs)
     ·rfl
    have e2:∀e,oM (DS.of D) s.M (nx+stride*i) e (o.op.map (bZ s.S))=(e=((ak s.M (nx+stride*i) (o.op.map (bZ s.S))).1,(ak s.M (nx+stride*i) (o.op.map (bZ s.S))).2.1)):=fun e=>by
     unfold oM;split
     ·rename_i f xs heq;exact absurd heq (h1 f xs)
     ·rename_i f cap xs heq;exact absurd heq (h2 f cap xs)
     ·rfl
    rw [e1]
    simp only [e2]
    refine ⟨hh.1,⟨_,rfl⟩,?_⟩
    rintro e rfl
    have hus:Told nx (rG nc ops a0 i) o i (jG (ak s.M (nx+stride*i) (o.op.map (bZ s.S))).2.1) (fO o s.S) :=
     ⟨fun h=>⟨by rw [(Jz hRI h _ _).1];rfl,JW hRI h⟩,fun h=>⟨by rw [(yL hRI h _ _).1];rfl,(yL hRI h s.M 0).2⟩,fun h=>⟨by rw [(A8 hRI h _ _).1];intro x hx;simp at hx;subst hx;unfold Cm stride;omega,(A8 hRI h s.M 0).2⟩⟩
    exact ⟨ck _ hus,next _ _ _ rfl rfl (hent _ hus) (by rw [hacc,stepS];exact RI.exec hRI) (inv _ (by unfold gm;rw [hg];simp only;rw [e1];exact hh.1) (by unfold jF;rw [hg];simp only;rw [e2])) hh.2⟩
  simp only [hops] at h
  cases hg:o.guard with
  | none =>
   rw [hg] at h
   exact run (by unfold gd;rw [hg]) h
  | some jw =>
   obtain ⟨j,want⟩:=jw
   rw [hg] at h
   simp only at h
   cases hd:(ops[j]?).bind (·.dst) with
   | none=>rw [hd] at h;exact h.elim
   | some d =>
    rw [hd] at h
    simp only [iq] at h
    generalize hv:ax d s.sl=v at h
    cases v with
    | bool b =>
     simp only at h
     have hv':s.S d=.bool b:=hv
     have hgd:gd ops o s.S=some (b==want):=by unfold gd;rw [hg];simp only [hd,iq,hv']
     by_cases hbw:b=want
     ·exact run (by rw [hgd];simp [hbw]) (h.1 hbw)
     ·refine ⟨o,hoi,?_⟩
      have:(b==want)=false:=by simpa using hbw
      unfold gm jF
      rw [hgd,this]
      simp only
      refine ⟨trivial,⟨_,rfl⟩,?_⟩
      rintro e rfl
      exact ⟨ck _ tskip,next [] (.tup []) _ rfl rfl (hent [] tskip) (by rw [hacc,stepS];exact RI.skip hRI (by rw [hg];simp) (by intro x hx;cases hx)) (inv _ (by unfold gm;rw [hgd,this];trivial) (by unfold jF;rw [hgd,this])) (h.2 hbw)⟩
    | tup cs =>
     cases cs with
     | cons _ _=>exact h.elim
     | nil =>
      simp only at h
      have hv':s.S d=.tup []:=hv
      have hgd:gd ops o s.S=some false:=by unfold gd;rw [hg];simp only [hd,iq,hv']
      refine ⟨o,hoi,?_⟩
      unfold gm jF
      rw [hgd]
      simp only
      refine ⟨trivial,⟨_,rfl⟩,?_⟩
      rintro e rfl
      exact ⟨ck _ tskip,next [] (.tup []) _ rfl rfl (hent [] tskip) (by rw [hacc,stepS];exact RI.skip hRI (by rw [hg];simp) (by intro x hx;cases hx)) (inv _ (by unfold gm;rw [hgd];trivial) (by unfold jF;rw [hgd])) h⟩
    | _=>exact h.elim
theorem JL (nc:Bool) {P:Program} {k:List HI} {Q:HE->St->Prop} {s:St} {ops:List af} {masks:List Nat} (ro0 old0:List Nat) (h1:ql masks ops=true) (h2:wE nc masks ops (ro0,ro0++old0,old0)=true) (D:FuncId->List HV->HV->Prop) (h0:∀t∈ro0,(ax t s.sl).deep=[]/\ax t s.sl≠.nils) (h00:∀t∈old0,(∀x∈(ax t s.sl).deep,x<s.nx)/\ax t s.sl≠.nils) (h:hx P (.o (CS P D) ops ops 0::k) Q s) (hDn:nc=true->∀f args r,D f args r->∀fr,(unpack fr r).1.inn F0):hx P (.c (.region (some masks) ops)::k) Q s:=by
 refine TJ (Weak.refl s) ?_
 refine ⟨h1,fun hI=>.inl ⟨DS.of D,?_⟩⟩
 have hlit:∀i o,ops[i]?=some o->qL o=true:=fun i o ho=>(mP h1 ho).2.1
 have hI0:Inv s.nx (fun k=>k<0) s.S s.M:=by
  have:(fun k:Nat=>k<0)=fun _=>False:=by funext k;exact propext ⟨fun h=>by omega,fun h=>h.elim⟩
  rw [this];exact hI
 have hRI:RI s.nx (rG nc ops (ro0,ro0++old0,old0) 0) s.S:=by
  refine ⟨fun t ht x hx=>?_,fun t ht=>?_,fun t ht=>(h00 t ht).1⟩
  ·have h3:=(h0 t ht).1
   have h4:s.S t=ax t s.sl:=rfl
   rw [h4,h3] at hx
   cases hx
  ·rcases zl003.1 ht with ht|ht
   ·exact (h0 t ht).2
   ·exact (h00 t ht).2
 unfold hx at h
 have:=PT hlit hDn h2 ops 0 [] s rfl rfl (by simp) (by simp) hRI hI0 (by simp) h
 rw [JP]
 exact this
theorem iW {P:Program} {k:List HI} {Q:HE->St->Prop} {s:St} {ops:List af} {masks:List Nat} (ro0 old0:List Nat) (h1:ql masks ops=true) (h2:wE true masks ops (ro0,ro0++old0,old0)=true) (D:FuncId->List HV->HV->Prop) (h0:∀t∈ro0,(ax t s.sl).deep=[]/\ax t s.sl≠.nils) (h00:∀t∈old0,(∀x∈(ax t s.sl).deep,x<s.nx)/\ax t s.sl≠.nils) (h:hx P (.o (CS P D) ops ops 0::k) Q s) (hDn:∀f args r,D f args r->∀fr,(unpack fr r).1.inn F0:=by intro _ _ _ h;exact h.elim):hx P (.c (.region (some masks) ops)::k) Q s :=
 JL true ro0 old0 h1 h2 D h0 h00 h (fun _=>hDn)
theorem Ye {P:Program} {k:List HI} {Q:HE->St->Prop} {s:St} {ops:List af} {masks:List Nat} (ro0 old0:List Nat) (h1:ql masks ops=true) (h2:wE false masks ops (ro0,ro0++old0,old0)=true) (D:FuncId->List HV->HV->Prop) (h0:∀t∈ro0,(ax t s.sl).deep=[]/\ax t s.sl≠.nils) (h00:∀t∈old0,(∀x∈(ax t s.sl).deep,x<s.nx)/\ax t s.sl≠.nils) (h:hx P (.o (CS P D) ops ops 0::k) Q s):hx P (.c (.region (some masks) ops)::k) Q s :=
 JL false ro0 old0 h1 h2 D h0 h00 h (fun h=>by cases h)
theorem P9 (nc:Bool) {P:Program} {k:List HI} {Q:HE->St->Prop} {s:St} {ops:List af} {masks:List Nat} (n:Nat) (ro0 old0:List Nat) (h1:ql masks ops=true) (hs:BK masks ops n=true) (h2:wE nc masks (ops.take n) (ro0,ro0++old0,old0)=true) (D:FuncId->List HV->HV->Prop) (h0:∀t∈ro0,(ax t s.sl).deep=[]/\ax t s.sl≠.nils) (h00:∀t∈old0,(∀x∈(ax t s.sl).deep,x<s.nx)/\ax t s.sl≠.nils)
  (h:hx P (.o (CS P D) (ops.take n) (ops.take n) 0::.c (.region none (ops.drop n))::k) Q s) (hDn:nc=true->∀f args r,D f args r->∀fr,(unpack fr r).1.inn F0):hx P (.c (.region (some masks) ops)::k) Q s:=by
 refine TJ (Weak.refl s) ?_
 refine ⟨h1,fun hI=>.inr ⟨n,DS.of D,hs,?_⟩⟩
 have hlit:∀i o,(ops.take n)[i]?=some o->qL o=true:=fun i o ho=>by
  have hi:i<n:=by
   have:=(zl036.1 ho).1
   rw [dS] at this;omega
  rw [O6 hi] at ho
  exact (mP h1 ho).2.1
 have hI0:Inv s.nx (fun k=>k<0) s.S s.M:=by
  have:(fun k:Nat=>k<0)=fun _=>False:=by funext k;exact propext ⟨fun h=>by omega,fun h=>h.elim⟩
  rw [this];exact hI
 have hRI:RI s.nx (rG nc (ops.take n) (ro0,ro0++old0,old0) 0) s.S:=by
  refine ⟨fun t ht x hx=>?_,fun t ht=>?_,fun t ht=>(h00 t ht).1⟩
  ·have h3:=(h0 t ht).1
   have h4:s.S t=ax t s.sl:=rfl
   rw [h4,h3] at hx
   cases hx
  ·rcases zl003.1 ht with ht|ht
   ·exact (h0 t ht).2
   ·exact (h00 t ht).2
 have hn:n<=ops.length:=by
  simp only [BK,bC,decide_eq_true_eq] at hs
  exact hs.1.1
 unfold hx at h
 have:=PT hlit hDn h2 (ops.take n) 0 [] s rfl rfl (by simp) (by simp) hRI hI0 (by simp) h
 rw [dS,EK hn,<- JP] at this
 refine KY ?_ this
 rintro S M ⟨s',a,b,c,s2,d,e⟩
 exact ⟨s',s2,a,b,c,d,e⟩
theorem Vp {P:Program} {k:List HI} {Q:HE->St->Prop} {s:St} {ops:List af} {masks:List Nat} (n:Nat) (ro0 old0:List Nat) (h1:ql masks ops=true) (hs:BK masks ops n=true) (h2:wE false masks (ops.take n) (ro0,ro0++old0,old0)=true) (D:FuncId->List HV->HV->Prop) (h0:∀t∈ro0,(ax t s.sl).deep=[]/\ax t s.sl≠.nils) (h00:∀t∈old0,(∀x∈(ax t s.sl).deep,x<s.nx)/\ax t s.sl≠.nils)
  (h:hx P (.o (CS P D) (ops.take n) (ops.take n) 0::.c (.region none (ops.drop n))::k) Q s):hx P (.c (.region (some masks) ops)::k) Q s :=
 P9 false n ro0 old0 h1 hs h2 D h0 h00 h (fun h=>by cases h)
end Go.HL
