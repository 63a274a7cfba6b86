import Derived.Test.YtlbdmpjnmfmnfaaHl5
set_option linter.unusedSimpArgs false
set_option linter.unusedVariables false
namespace Go.HL
set_option linter.unnecessarySimpa false
open Go.RowKit
def inT (l:List Nat):HX->Bool
 | .t i=>l.contains i
 | .c _=>false
def lX (l:List Nat):HX->Bool
 | .t i=>l.contains i
 | .c v=>v.deep.isEmpty
abbrev RS:=List Nat×List Nat×List Nat
def quiet (a:RS) (o:aB):Bool:=match o.op with
 | .mv 0 x=>lX a.1 x
 | .mv (_+1) x=>inT a.2.1 x&&inT a.1 x
 | .iaddr _ x y=>lX a.1 x&&lX a.1 y
 | .load _ _ x=>lX a.1 x
 | .nilck x=>lX a.1 x
 | .faddr _ x=>lX a.1 x
 | .mlook _ _ z x k=>z.deep.isEmpty&&lX a.1 x&&lX a.1 k
 | .mlen x=>lX a.1 x
 | .len x=>lX a.1 x
 | .pick c x y=>lX a.1 c&&lX a.1 x&&lX a.1 y
 | .bin _ x y=>lX a.1 x&&lX a.1 y
 | .bld zs ps=>(bg zs).isEmpty&&ps.all fun q=>lX a.1 q.2.2
 | _=>false
def iT (a:RS) (o:aB):Bool:=match o.op with
 | .mv _ x=>inT a.2.1 x
 | _=>false
def without (l:List Nat):Option Nat->List Nat
 | some t=>l.filter (· != t)
 | none=>l
def qR (a:RS) (o:aB):Bool:=match o.op with
 | .mv 0 x=>inT a.2.2 x
 | .mv (_+1) x=>inT a.2.2 x&&inT a.2.1 x
 | .iaddr _ x _=>inT a.2.2 x
 | _=>false
def rq (a:RS) (o:aB):Bool:=match o.op with
 | .load _ _ x=>inT a.2.2 x
 | _=>false
def tJ (a:RS) (o:aB):Bool:=match o.op with
 | .bsl _ _ xs=>xs.all (lX a.1)
 | _=>false
def Qi (o:aB):Bool:=match o.op with
 | .call ..=>true
 | .callv ..=>true
 | _=>false
def more (c:Bool) (t:Nat) (l:List Nat):List Nat:=if c then t::l else l
def tC (nc:Bool) (a:RS) (o:aB):RS:=match o.guard,o.dst with
 | none,some t=>(more (quiet a o || (nc&&Qi o)) t (without a.1 o.dst),more (iT a o) t (without a.2.1 o.dst),more (qR a o) t (without a.2.2 o.dst))
 | some _,some t=>(more (quiet a o || (nc&&Qi o)) t (without a.1 o.dst),without a.2.1 o.dst,without a.2.2 o.dst)
 | _,_=>(without a.1 o.dst,without a.2.1 o.dst,without a.2.2 o.dst)
def lV (nc:Bool) (ops:List aB) (a0:RS) (i:Nat):RS:=(ops.take i).foldl (tC nc) a0
def uH (nc:Bool) (masks:List Nat) (all:List aB) (a0:RS):Bool :=
 (List.range all.length).all fun i=>(List.range i).all fun k=>oQ masks k i || (match all[k]?,all[i]? with|some x,some y=>!Iy x y || quiet (lV nc all a0 k) x || quiet (lV nc all a0 i) y || tJ (lV nc all a0 i) y || (tJ (lV nc all a0 k) x&&rq (lV nc all a0 i) y)|_,_=>true)
def F0:Nat->Prop:=fun _=>False
structure RI (nx:Nat) (a:RS) (S:Lk):Prop where
 ro:∀t∈a.1,(S t).inn F0
 nn:∀t∈a.2.1,S t≠.nils
 old:∀t∈a.2.2,(S t).inn (·<nx)
theorem WR {v:HV} (h:v.inn F0):v.deep=[]:=List.eq_nil_iff_forall_not_mem.2 fun x hx=>h x hx
theorem iK {nx:Nat} {a:RS} {S:Lk} (h:RI nx a S) {x:HX} (hx:lX a.1 x=true):(dA S x).inn F0:=by
 cases x with
 | t i=>exact h.ro i (by simpa [lX] using hx)
 | c v =>
  have hd:v.deep=[]:=by simpa [lX,List.isEmpty_iff] using hx
  intro y hy
  simp only [dA,hd] at hy
  cases hy
theorem Dc {l:List Nat} {x:HX} (h:inT l x=true):lX l x=true:=by cases x<;>simp_all [inT,lX]
theorem BD {nx:Nat} {a:RS} {S:Lk} (h:RI nx a S) {x:HX} (hx:inT a.2.1 x=true):dA S x≠.nils:=by
 cases x with
 | t i=>exact h.nn i (by simpa [inT] using hx)
 | c v=>cases hx
theorem zk {nx:Nat} {a:RS} {S:Lk} {o:aB} (h:RI nx a S) (hq:quiet a o=true):bg (o.op.map (dA S)).vals=[]:=by
 obtain ⟨d,op,g⟩:=o
 have one:∀ {x:HX},lX a.1 x=true->(dA S x).deep=[]:=fun hx=>WR (iK h hx)
 cases op<;>simp only [quiet] at hq<;>(try cases hq)
 case mv n x=>cases n with
  | zero=>simp [HOp.map,HOp.vals,bg,one hq]
  | succ n=>simp only [Bool.and_eq_true] at hq;simp [HOp.map,HOp.vals,bg,one (Dc hq.2)]
 case pick=>simp only [Bool.and_eq_true] at hq;simp [HOp.map,HOp.vals,bg,one hq.1.1,one hq.1.2,one hq.2]
 case bin=>simp only [Bool.and_eq_true] at hq;simp [HOp.map,HOp.vals,bg,one hq.1,one hq.2]
 case load b sz x=>simp [HOp.map,HOp.vals,bg,one hq]
 case nilck x=>simp [HOp.map,HOp.vals,bg,one hq]
 case faddr d x=>simp [HOp.map,HOp.vals,bg,one hq]
 case mlook ok kk z x k=>simp only [Bool.and_eq_true] at hq;simp [HOp.map,HOp.vals,bg,one hq.1.2,one hq.2]
 case mlen x=>simp [HOp.map,HOp.vals,bg,one hq]
 case iaddr=>simp only [Bool.and_eq_true] at hq;simp [HOp.map,HOp.vals,bg,one hq.1,one hq.2]
 case len=>simp [HOp.map,HOp.vals,bg,one hq]
 case bld zs ps =>
  simp only [Bool.and_eq_true,List.all_eq_true] at hq
  refine List.eq_nil_iff_forall_not_mem.2 fun x hx=>?_
  obtain ⟨v,hv,hxv⟩:=mem_deepL.1 hx
  simp only [HOp.map,HOp.vals,List.map_map,List.mem_map,Function.comp] at hv
  obtain ⟨q,hq1,rfl⟩:=hv
  rw [one (hq.2 q hq1)] at hxv
  cases hxv
theorem Iz {nx:Nat} {a:RS} {S:Lk} (h:RI nx a S) {zs:List HV} {ps:List (Nat×Nat×HX)} (hq:((bg zs).isEmpty&&ps.all fun q=>lX a.1 q.2.2)=true):(HV.agg (jQ zs (ps.map fun p=>(p.1,p.2.1,dA S p.2.2))).1).inn F0:=by
 simp only [Bool.and_eq_true,List.all_eq_true,List.isEmpty_iff] at hq
 have h1:innL F0 zs:=innL_iff.2 (by rw [hq.1];simp)
 have h2:=Dz (ps:=ps.map fun p=>(p.1,p.2.1,dA S p.2.2)) h1 (fun q hq'=>by
  obtain ⟨p,hp,rfl⟩:=List.mem_map.1 hq'
  exact iK h (hq.2 p hp))
 intro x hx
 exact innL_iff.1 h2 x hx
theorem zx {nx:Nat} {a:RS} {S:Lk} {o:aB} (h:RI nx a S) (hq:quiet a o=true) (L:Lk) (fr:Nat):(az L fr (o.op.map (dA S))).2.1=[]/\(az L fr (o.op.map (dA S))).1.inn F0/\(iT a o=true->(az L fr (o.op.map (dA S))).1≠.nils):=by
 obtain ⟨d,op,g⟩:=o
 cases op<;>simp only [quiet] at hq<;>(try cases hq)
 case mv n x=>cases n with
  | zero=>exact ⟨by cases hv:dA S x<;>simp [HOp.map,az,hv],by have:=iK h hq;cases hv:dA S x<;>simpa [HOp.map,az,hv] using this,fun hk=>by have:=BD h hk;cases hv:dA S x<;>simp_all [HOp.map,az]⟩
  | succ n =>
   simp only [Bool.and_eq_true] at hq
   have h1:=BD h hq.1
   have h2:=iK h (Dc hq.2)
   refine ⟨by cases hv:dA S x<;>simp_all [HOp.map,az],by cases hv:dA S x<;>simp_all [HOp.map,az],fun _=>by cases hv:dA S x<;>simp_all [HOp.map,az]⟩
 case pick c x y =>
  simp only [Bool.and_eq_true] at hq
  have h1:=iK h hq.1.2
  have h2:=iK h hq.2
  refine ⟨?_,?_,fun hk=>by simp [iT] at hk⟩
  ·simp only [HOp.map,az]
   repeat' split
   all_goals rfl
  ·simp only [HOp.map,az]
   split
   ·split
    ·intro z hz;cases hz
    ·simp only;split
     ·exact h1
     ·exact h2
   ·exact di
 case bin op x y=>exact ⟨rfl,FV,fun hk=>by simp [iT] at hk⟩
 case load b sz x =>
  have h1:=iK h hq
  refine ⟨?_,?_,fun hk=>by simp [iT] at hk⟩
  ·cases b<;>cases hv:dA S x<;>simp [HOp.map,az,hv]
  ·cases b<;>cases hv:dA S x<;>(simp only [HOp.map,az,hv];rw [hv] at h1)
   all_goals first|exact di|skip
   ·simp only [wJ] at h1;exact h1.getD _
   ·exact (show False from h1 _ (List.mem_singleton.2 rfl)).elim
   ·simp only [wJ] at h1;simp only [if_true,nK];exact h1.win _ _
   ·exact (show False from h1 _ (List.mem_singleton.2 rfl)).elim
 case nilck x =>
  have h1:=iK h hq
  refine ⟨?_,?_,fun hk=>by simp [iT] at hk⟩
  ·cases hv:dA S x<;>simp [HOp.map,az,hv]
  ·cases hv:dA S x<;>(simp only [HOp.map,az,hv];rw [hv] at h1)
   all_goals first|exact di|exact h1
 case faddr d x =>
  have h1:=iK h hq
  refine ⟨?_,?_,fun hk=>by simp [iT] at hk⟩
  ·cases hv:dA S x<;>simp [HOp.map,az,hv]
  ·cases hv:dA S x<;>(simp only [HOp.map,az,hv];rw [hv] at h1)
   all_goals first|exact di|skip
   ·simpa using h1
   ·exact (show False from h1 _ (List.mem_singleton.2 rfl)).elim
 case mlook ok kk z x k =>
  simp only [Bool.and_eq_true,List.isEmpty_iff] at hq
  have hz:z.inn F0:=fun y hy=>by rw [hq.1.1] at hy;cases hy
  have h1:=iK h hq.1.2
  refine ⟨?_,?_,fun hk=>by simp [iT] at hk⟩
  ·simp only [HOp.map,az]
   repeat' split
   all_goals rfl
  ·simp only [HOp.map,az]
   cases hv:dA S x<;>(simp only;rw [hv] at h1)
   all_goals first|exact di|skip
   ·exact nP hz
   ·simp only [yf] at h1
    split
    ·exact nP (h1.getD _)
    ·exact nP hz
   ·exact (show False from h1 _ (List.mem_singleton.2 rfl)).elim
 case mlen x =>
  have h1:=iK h hq
  refine ⟨?_,?_,fun hk=>by simp [iT] at hk⟩
  ·cases hv:dA S x<;>simp only [HOp.map,az,hv]<;>split<;>rfl
  ·cases hv:dA S x<;>simp only [HOp.map,az,hv]<;>first|exact jM|exact di|(split<;>first|exact jM|exact di)
 case iaddr sz x y =>
  simp only [Bool.and_eq_true] at hq
  have h1:=iK h hq.1
  refine ⟨?_,?_,fun hk=>by simp [iT] at hk⟩
  ·cases hv:dA S y<;>cases hw:dA S x<;>simp [HOp.map,az,hv,hw]
  ·cases hv:dA S y<;>cases hw:dA S x<;>(simp only [HOp.map,az,hv,hw];rw [hw] at h1)
   all_goals first|exact di|skip
   ·simpa using h1
   ·exact (show False from h1 _ (List.mem_singleton.2 rfl)).elim
 case bld zs ps=>exact ⟨rfl,Iz h hq,fun hk=>by simp [iT] at hk⟩
 case len x =>
  refine ⟨by cases hv:dA S x<;>simp [HOp.map,az,hv],?_,fun hk=>by simp [iT] at hk⟩
  cases hv:dA S x<;>simp only [HOp.map,az,hv]<;>first|exact jM|exact di
theorem yF {nx:Nat} {a:RS} {S:Lk} {o:aB} (h:(∃f xs,o.op.map (dA S)=.call f xs)\/∃x xs,o.op.map (dA S)=.callv x xs):(∀t ids,(quiet a o=true->t=([]:List Nat)/\ids=([]:List Nat))/\(rq a o=true->t=[]/\∀x∈ids,x<nx)/\(tJ a o=true->(∀i,∀x∈t,uA nx i x)/\ids=[]))/\(quiet a o=false/\iT a o=false/\qR a o=false):=by
 obtain ⟨d,op,g⟩:=o
 cases op<;>simp_all [HOp.map,quiet,rq,tJ,iT,qR]
theorem Nz {us:List Upd}:∀ {S:Lk} {t:Nat},(S t).inn F0->(qB S us t).inn F0:=by
 induction us with
 | nil=>intro S t h;exact h
 | cons u r ih=>intro S t h;cases u with
  | put=>exact ih h
  | kill id len=>exact ih (S:=fun t=>(S t).kill id len) (uz id len _ h)
theorem PM {v:HV} (h:v≠.nils) (id len:Nat):v.kill id len≠.nils:=by
 cases v<;>simp_all [HV.kill]<;>split<;>simp
theorem QO {us:List Upd}:∀ {S:Lk} {t:Nat},S t≠.nils->qB S us t≠.nils:=by
 induction us with
 | nil=>intro S t h;exact h
 | cons u r ih=>intro S t h;cases u with
  | put=>exact ih h
  | kill id len=>exact ih (S:=fun t=>(S t).kill id len) (PM h id len)
theorem qL {l:List Nat} {d:Option Nat} {t:Nat} (h:t∈without l d):t∈l/\d≠some t:=by
 cases d with
 | none=>exact ⟨h,by simp⟩
 | some k =>
  simp only [without,List.mem_filter,bne_iff_ne,ne_eq] at h
  exact ⟨h.1,fun e=>h.2 (by cases e;rfl)⟩
theorem JO {p:Nat->Prop} {us:List Upd}:∀ {S:Lk} {t:Nat},(S t).inn p->(qB S us t).inn p:=by
 induction us with
 | nil=>intro S t h;exact h
 | cons u r ih=>intro S t h;cases u with
  | put=>exact ih h
  | kill id len=>exact ih (S:=fun t=>(S t).kill id len) (uz id len _ h)
theorem EJ {nx:Nat} {a:RS} {S:Lk} {o:aB} (h:RI nx a S) (hq:iT a o=true) (L:Lk) (fr:Nat):(az L fr (o.op.map (dA S))).1≠.nils:=by
 obtain ⟨d,op,g⟩:=o
 cases op<;>simp only [iT] at hq<;>(try cases hq)
 rename_i n x
 have h1:=BD h hq
 cases n<;>cases hv:dA S x<;>simp_all [HOp.map,az]
theorem wK {nx:Nat} {a:RS} {S:Lk} (h:RI nx a S) {x:HX} (hx:inT a.2.2 x=true):(dA S x).inn (·<nx):=by
 cases x with
 | t i=>exact h.old i (by simpa [inT] using hx)
 | c v=>cases hx
theorem EL {nx:Nat} {a:RS} {S:Lk} {o:aB} (h:RI nx a S) (hq:qR a o=true) (L:Lk) (fr:Nat):(az L fr (o.op.map (dA S))).1.inn (·<nx):=by
 obtain ⟨d,op,g⟩:=o
 cases op<;>simp only [qR] at hq<;>(try cases hq)
 case mv n x=>cases n with
  | zero =>
   have h1:=wK h hq
   cases hv:dA S x<;>(rw [hv] at h1;simpa [HOp.map,az,hv] using h1)
  | succ n =>
   simp only [Bool.and_eq_true] at hq
   have h1:=wK h hq.1
   have h2:=BD h hq.2
   cases hv:dA S x<;>first|exact absurd hv h2|(rw [hv] at h1;simpa [HOp.map,az,hv] using h1)
 case iaddr sz x y =>
  have h1:=wK h hq
  cases hv:dA S y<;>cases hw:dA S x<;>(simp only [HOp.map,az,hv,hw];rw [hw] at h1)
  all_goals first|exact di|skip
  ·simpa using h1
  ·intro z hz
   exact h1 z hz
theorem qF {nx:Nat} {a:RS} {S:Lk} {o:aB} (h:RI nx a S) (hq:rq a o=true) (L:Lk) (fr:Nat):(az L fr (o.op.map (dA S))).2.1=[]/\∀x∈iP o S,x<nx:=by
 obtain ⟨d,op,g⟩:=o
 cases op<;>simp only [rq] at hq<;>(try cases hq)
 rename_i b sz x
 have h1:=wK h hq
 refine ⟨?_,fun z hz=>h1 z ?_⟩
 ·cases hv:dA S x<;>cases b<;>simp [HOp.map,az,hv]
 ·simpa [iP,HOp.map,HOp.vals,bg] using hz
theorem Ho {L:Lk} {v:HV} (h:v.deep=[]):(takeC L v).2.1=[]:=by
 cases v<;>simp_all [takeC,HV.deep]
theorem Jj:∀ {l:List HV} {L:Lk},bg l=[]->(fU L l).2.1=[]:=by
 intro l
 induction l with
 | nil=>intro L _;rfl
 | cons v r ih =>
  intro L h
  simp only [bg,List.append_eq_nil_iff] at h
  simp only [fU,Ho h.1,Lk.upd,List.nil_append]
  exact ih h.2
theorem tu {nx:Nat} {a:RS} {S:Lk} {o:aB} (h:RI nx a S) (hq:tJ a o=true) (L:Lk) (fr:Nat):ig (az L fr (o.op.map (dA S))).2.1=[fr]/\iP o S=[]:=by
 obtain ⟨d,op,g⟩:=o
 cases op<;>simp only [tJ] at hq<;>(try cases hq)
 rename_i sz n xs
 have hd:bg (xs.map (dA S))=[]:=by
  rw [List.eq_nil_iff_forall_not_mem]
  intro z hz
  rw [mem_deepL] at hz
  obtain ⟨v,hv,hz⟩:=hz
  obtain ⟨x,hx,rfl⟩:=List.mem_map.1 hv
  have:=WR (iK h (List.all_eq_true.1 hq x hx))
  rw [this] at hz;cases hz
 have hd2:bg ((xs.map (dA S)).flatMap cellsOf)=[]:=by
  rw [List.eq_nil_iff_forall_not_mem]
  intro z hz
  have:=uQ hz
  rw [hd] at this;cases this
 refine ⟨?_,by simpa [iP,HOp.map,HOp.vals] using hd⟩
 simp only [HOp.map,az,Jj hd2,List.nil_append]
 rfl
theorem RI.rest {nx:Nat} {a:RS} {S:Lk} (h:RI nx a S) {o:aB} (e:HV×List Upd):RI nx (without a.1 o.dst,without a.2.1 o.dst,without a.2.2 o.dst) (jZ o e S):=by
 refine ⟨fun t ht=>?_,fun t ht=>?_,fun t ht=>?_⟩
 ·obtain ⟨h1,h2⟩:=qL ht
  simp only [jZ,if_neg h2]
  exact Nz (h.ro t h1)
 ·obtain ⟨h1,h2⟩:=qL ht
  simp only [jZ,if_neg h2]
  exact QO (h.nn t h1)
 ·obtain ⟨h1,h2⟩:=qL ht
  simp only [jZ,if_neg h2]
  exact JO (h.old t h1)
theorem uD {c:Bool} {t u:Nat} {l:List Nat} (h:u∈more c t l):(c=true/\u=t)\/u∈l:=by
 unfold more at h
 split at h
 ·rename_i hc
  rcases List.mem_cons.1 h with h|h
  ·exact .inl ⟨hc,h⟩
  ·exact .inr h
 ·exact .inr h
theorem RI.step {nc:Bool} {nx:Nat} {a:RS} {S:Lk} (h:RI nx a S) {o:aB} (e:HV×List Upd) (h1:(quiet a o || (nc&&Qi o))=true->e.1.inn F0) (h2:o.guard=none->iT a o=true->e.1≠.nils) (h3:o.guard=none->qR a o=true->e.1.inn (·<nx)):RI nx (tC nc a o) (jZ o e S):=by
 have hr:=h.rest (o:=o) e
 unfold tC
 split
 ·rename_i t hg hd
  refine ⟨fun u hu=>?_,fun u hu=>?_,fun u hu=>?_⟩
  ·rcases uD hu with ⟨hc,rfl⟩|hu
   ·simp only [jZ,hd,if_true];exact h1 hc
   ·exact hr.ro u hu
  ·rcases uD hu with ⟨hc,rfl⟩|hu
   ·simp only [jZ,hd,if_true];exact h2 hg hc
   ·exact hr.nn u hu
  ·rcases uD hu with ⟨hc,rfl⟩|hu
   ·simp only [jZ,hd,if_true];exact h3 hg hc
   ·exact hr.old u hu
 ·rename_i t hg hd
  refine ⟨fun u hu=>?_,hr.nn,hr.old⟩
  rcases uD hu with ⟨hc,rfl⟩|hu
  ·simp only [jZ,hd,if_true];exact h1 hc
  ·exact hr.ro u hu
 ·exact hr
theorem RI.loud {nc:Bool} {nx:Nat} {a:RS} {S:Lk} (h:RI nx a S) {o:aB} (hq:quiet a o=false/\iT a o=false/\qR a o=false) (e:HV×List Upd) (hn:nc=true->e.1.inn F0):RI nx (tC nc a o) (jZ o e S) :=
 h.step e (fun hh=>hn (by rw [hq.1,Bool.false_or] at hh;exact (Bool.and_eq_true_iff.1 hh).1)) (fun _ h=>by rw [hq.2.1] at h;cases h) (fun _ h=>by rw [hq.2.2] at h;cases h)
theorem RI.skip {nc:Bool} {nx:Nat} {a:RS} {S:Lk} (h:RI nx a S) {o:aB} (hg:o.guard≠none) {e:HV×List Upd} (hn:e.1.inn F0):RI nx (tC nc a o) (jZ o e S) :=
 h.step e (fun _=>hn) (fun h=>absurd h hg) (fun h=>absurd h hg)
theorem RI.exec {nc:Bool} {nx:Nat} {a:RS} {S M:Lk} {fr:Nat} (h:RI nx a S) {o:aB}:RI nx (tC nc a o) (jZ o ((az M fr (o.op.map (dA S))).1,(az M fr (o.op.map (dA S))).2.1) S) :=
 h.step _ (fun hq=>by
  rcases Bool.or_eq_true_iff.1 hq with hq|hq
  ·exact (zx h hq M fr).2.1
  ·obtain ⟨d,op,g⟩:=o
   replace hq:=(Bool.and_eq_true_iff.1 hq).2
   cases op<;>simp only [Qi] at hq<;>(first|exact di|cases hq)) (fun _ hq=>EJ h hq M fr) (fun _ hq=>EL h hq M fr)
def Told (nx:Nat) (a:RS) (o:aB) (i:Nat) (t ids:List Nat):Prop :=
 (quiet a o=true->t=[]/\ids=[])/\(rq a o=true->t=[]/\∀x∈ids,x<nx)/\(tJ a o=true->(∀x∈t,uA nx i x)/\ids=[])
def GM (nx:Nat) (a:RS) (o:aB) (i:Nat) (W R:List Nat):Prop:=∃t ids,Told nx a o i t ids/\(∀c∈W,c / 2∈t)/\∀c∈R,c / 2∈ids
theorem Told.e {nx:Nat} {a:RS} {o o2:aB} {i:Nat} {us:List Upd} {S:Lk} (h:Told nx a o i (ig us) (iP o2 S)):GM nx a o i (nR o2 S us) (kW o2 S):=⟨_,_,h,fun _ hc=>BN hc,fun _ hc=>qA hc⟩
theorem LX {nc:Bool} {P:Program} {D:FuncId->List HV->HV->Prop} {ops:List aB} {masks:List Nat} {nx:Nat} {K:St->Prop} {a0:RS} (hlit:∀ (i:Nat) (o:aB),ops[i]?=some o->lL o=true) (hDn:nc=true->∀f args r,D f args r->∀fr,(unpack fr r).1.inn F0) (hns:uH nc masks ops a0=true):∀ (rest:List aB) (i:Nat) (log:jL) (s:St),ops.drop i=rest->s.nx=nx->(∀q∈log,q.1<i)->(∀q∈log,∀o,ops[q.1]?=some o->GM nx (lV nc ops a0 q.1) o q.1 q.2.1 q.2.2)->RI nx (lV nc ops a0 i) s.S->Inv nx (fun k=>k<i) s.S s.M->(∀q∈log,∀x∈q.2.2,pz nx (fun k=>k<q.1) (x / 2))->hops (CS P D) ops rest i K s ->
  dr (HT2 P) (DS.of D) ops masks nx (fun S M=>∃s':St,s'.S=S/\s'.M=M/\s'.nx=nx/\K s') (List.range' i rest.length) log s.S s.M:=by
 intro rest
 induction rest with
 | nil=>intro i log s _ hnx _ _ _ _ _ h;exact ⟨s,rfl,rfl,hnx,h⟩
 | cons o rest ih =>
  intro i log s hdrop hnx hlog hlq hRI hI hlb h
  have hoi:ops[i]?=some o:=by
   have:=congrArg (fun l:List aB=>l[0]?) hdrop
   simpa using this
  have hdrop':ops.drop (i+1)=rest:=by
   have:=congrArg (List.drop 1) hdrop
   simpa [List.drop_drop,Nat.add_comm] using this
  simp only [List.length_cons,List.range'_succ]
  have hil:=(List.getElem?_eq_some_iff.1 hoi).1
  have ck:∀e:HV×List Upd,Told nx (lV nc ops a0 i) o i (ig e.2) (iP o s.S)->∀q∈log,chk (fun _=>false) masks ops i o e s.S q:=by
   intro e he q hq b1 _ o' ho' hs
   have hlt:=hlog q hq
   obtain ⟨t,ids,hl,hlt1,hlt2⟩:=hlq q hq o' ho'
   simp only [uH,List.all_eq_true,List.mem_range,Bool.or_eq_true] at hns
   have h:=hns i hil q.1 hlt
   rw [ho',hoi] at h
   simp only [Bool.or_eq_true,Bool.not_eq_true',Bool.and_eq_true] at h
   have w2:=fun c (hc:c∈nR o s.S e.2)=>BN hc
   have r2:=fun c (hc:c∈kW o s.S)=>qA hc
   rw [xK] at hs
   rcases h with h|(((h|h)|h)|h)|h
   ·rw [b1] at h;cases h
   ·rw [h] at hs;cases hs
   ·obtain ⟨p1,p2⟩:=hl.1 h
    rw [p1] at hlt1
    rw [p2] at hlt2
    exact ⟨fun x _ hx=>by have:=hlt2 x hx;simp at this,fun x hx=>by have:=hlt1 x hx;simp at this⟩
   ·obtain ⟨p1,p2⟩:=he.1 h
    rw [p1] at w2
    rw [p2] at r2
    exact ⟨fun x hx=>by have:=w2 x hx;simp at this,fun x _ hx=>by have:=r2 x hx;simp at this⟩
   ·obtain ⟨p3,p4⟩:=he.2.2 h
    rw [p4] at r2
    refine ⟨fun x hx hx'=>?_,fun x _ hx'=>by have:=r2 x hx';simp at this⟩
    have h3:=p3 _ (w2 x hx)
    have h4:=hlb q hq x hx'
    rcases h4 with h4|⟨k,h4,h5⟩
    ·unfold uA at h3;omega
    ·have:k+1<=i:=by omega
     have:=Nat.mul_le_mul_left stride this
     unfold uA at h3 h5
     omega
   ·obtain ⟨p1,p2⟩:=hl.2.2 h.1
    obtain ⟨p3,p4⟩:=he.2.1 h.2
    rw [p3] at w2
    refine ⟨fun x hx=>by have:=w2 x hx;simp at this,fun x hx hx'=>?_⟩
    have h5:=p1 _ (hlt1 x hx)
    have h6:=p4 _ (r2 x hx')
    unfold uA at *
    omega
  have hacc:lV nc ops a0 (i+1)=tC nc (lV nc ops a0 i) o:=by
   unfold lV
   rw [List.take_succ_eq_append_getElem hil,List.foldl_append]
   have:ops[i]=o:=by rw [List.getElem?_eq_getElem hil] at hoi;exact Option.some.inj hoi
   rw [this];rfl
  have hent:∀us:List Upd,Told nx (lV nc ops a0 i) o i (ig us) (iP o s.S)->∀q∈(i,nR o s.S us,kW o s.S)::log,∀o',ops[q.1]?=some o'->GM nx (lV nc ops a0 q.1) o' q.1 q.2.1 q.2.2:=by
   intro us hus q hq o' ho'
   rcases List.mem_cons.1 hq with rfl|hq
   ·rw [hoi] at ho'
    cases ho'
    exact hus.e
   ·exact hlq q hq o' ho'
  have tskip:Told nx (lV nc ops a0 i) o i (ig []) (iP o s.S):=⟨fun h=>⟨rfl,zk hRI h⟩,fun h=>⟨rfl,(qF hRI h s.M 0).2⟩,fun h=>⟨by simp [ig],(tu hRI h s.M 0).2⟩⟩
  have stepS:∀ (us:List Upd) (v:HV),((s.upd us).put o.dst v).S=jZ o (v,us) s.S:=fun us v=>by rw [St.put_S,St.upd_S];rfl
  have stepM:∀ (us:List Upd) (v:HV),((s.upd us).put o.dst v).M=pV (v,us) s.M:=fun us v=>by rw [St.put_M,St.upd_M];rfl
  have hids:∀x∈iP o s.S,pz nx (fun k=>k<i) x:=fun x hx=>innL_iff.1 (tY hI (hlit i o hoi)) x hx
  have inv:∀e,fO (HT2 P) (DS.of D) ops (nx+stride*i) o s.S s.M->iy (DS.of D) ops (nx+stride*i) o s.S s.M e->Inv nx (fun k=>k<i+1) (jZ o e s.S) (pV e s.M):=fun e hs hre=>by
   obtain ⟨f1,f2,_,_⟩:=nH hI (hlit i o hoi) hs hre
   have h1:=hI.step (o:=o) f1 f2
   have h2:(fun k=>k<i\/k=i)=(fun k=>k<i+1):=by funext k;exact propext ⟨fun h=>by omega,fun h=>by omega⟩
   rw [h2] at h1
   exact h1
  have next:∀ (us:List Upd) (v:HV) ent,ent.1=i->ent.2.2=kW o s.S->(∀q∈ent::log,∀o',ops[q.1]?=some o'->GM nx (lV nc ops a0 q.1) o' q.1 q.2.1 q.2.2)->RI nx (lV nc ops a0 (i+1)) ((s.upd us).put o.dst v).S->Inv nx (fun k=>k<i+1) (jZ o (v,us) s.S) (pV (v,us) s.M)->hops (CS P D) ops rest (i+1) K ((s.upd us).put o.dst v)->dr (HT2 P) (DS.of D) ops masks nx (fun S M=>∃s':St,s'.S=S/\s'.M=M/\s'.nx=nx/\K s') (List.range' (i+1) rest.length) (ent::log) (jZ o (v,us) s.S) (pV (v,us) s.M):=by
   intro us v ent he he2 hent hri hI' h'
   have:=ih (i+1) (ent::log) ((s.upd us).put o.dst v) hdrop' (by rw [St.put_nx,St.upd_nx];exact hnx) (fun q hq=>by
    rcases List.mem_cons.1 hq with rfl|hq
    ·omega
    ·have:=hlog q hq;omega) hent hri (by rw [stepS,stepM];exact hI') (fun q hq x hx=>by
    rcases List.mem_cons.1 hq with rfl|hq
    ·rw [he2] at hx;rw [he];exact hids _ (qA hx)
    ·exact hlb q hq x hx) h'
   rw [stepS,stepM] at this
   exact this
  have hstr:s.nx+stride*(i+1)=nx+stride*i+stride:=by rw [hnx];unfold stride;omega
  have run:gd ops o s.S=some true->hop (CS P D) s i o (hops (CS P D) ops rest (i+1) K)->∃o',ops[i]?=some o'/\fO (HT2 P) (DS.of D) ops (nx+stride*i) o' s.S s.M/\(∃e,iy (DS.of D) ops (nx+stride*i) o' s.S s.M e)/\∀e,iy (DS.of D) ops (nx+stride*i) o' s.S s.M e->(∀q∈log,chk (fun _=>false) masks ops i o' e s.S q)/\dr (HT2 P) (DS.of D) ops masks nx (fun S M=>∃s':St,s'.S=S/\s'.M=M/\s'.nx=nx/\K s') (List.range' (i+1) rest.length) ((i,nR o' s.S e.2,kW o' s.S)::log) (jZ o' e s.S) (pV e s.M):=by
   intro hg hh
   refine ⟨o,hoi,?_⟩
   unfold fO iy
   rw [hg]
   simp only
   have hM:(fun i=>aA i s.st)=s.M:=rfl
   replace hh:=hh.resolve_right (fun h=>h)
   unfold hop0 at hh
   rw [iq,hM,hstr,hnx] at hh
   have callc:∀ (f:FuncId) (args xs:List HV),(∀t ids,Told nx (lV nc ops a0 i) o i t ids)/\(quiet (lV nc ops a0 i) o=false/\iT (lV nc ops a0 i) o=false/\qR (lV nc ops a0 i) o=false)->((HT P f args (D f args)/\∀r,D f args r->r.deep=[]->(aX xs || r.noRd)=true/\(unpack (nx+stride*i) r).2.2<=nx+stride*i+stride)->fO (HT2 P) (DS.of D) ops (nx+stride*i) o s.S s.M)->(∀e:HV×List Upd,(∃r,D f args r/\r.deep=[]/\e=((unpack (nx+stride*i) r).1,(unpack (nx+stride*i) r).2.1))->iy (DS.of D) ops (nx+stride*i) o s.S s.M e)->(CS P D f args fun r=>(aX xs || r.noRd)=true/\(unpack (nx+stride*i) r).2.2<=nx+stride*i+stride/\hops (CS P D) ops rest (i+1) K ((s.upd (unpack (nx+stride*i) r).2.1).put o.dst (unpack (nx+stride*i) r).1)) ->
     (HT P f args (D f args)/\∀r,D f args r->r.deep=[]->(aX xs || r.noRd)=true/\(unpack (nx+stride*i) r).2.2<=nx+stride*i+stride)/\(∃e:HV×List Upd,∃r,D f args r/\r.deep=[]/\e=((unpack (nx+stride*i) r).1,(unpack (nx+stride*i) r).2.1)) /\
     ∀e:HV×List Upd,(∃r,D f args r/\r.deep=[]/\e=((unpack (nx+stride*i) r).1,(unpack (nx+stride*i) r).2.1))->(∀q∈log,chk (fun _=>false) masks ops i o e s.S q)/\dr (HT2 P) (DS.of D) ops masks nx (fun S M=>∃s':St,s'.S=S/\s'.M=M/\s'.nx=nx/\K s') (List.range' (i+1) rest.length) ((i,nR o s.S e.2,kW o s.S)::log) (jZ o e s.S) (pV e s.M):=by
    rintro f args xs hnq hf1 hf2 ⟨c1,⟨r0,c2,c3⟩,c4⟩
    have hsd:HT P f args (D f args)/\∀r,D f args r->r.deep=[]->(aX xs || r.noRd)=true/\(unpack (nx+stride*i) r).2.2<=nx+stride*i+stride:=⟨c1,fun r a b=>⟨(c4 r a b).1,(c4 r a b).2.1⟩⟩
    refine ⟨hsd,⟨_,r0,c2,c3,rfl⟩,?_⟩
    rintro e ⟨r,d1,d2,rfl⟩
    exact ⟨ck _ (hnq.1 _ _),next _ _ _ rfl rfl (hent _ (hnq.1 _ _)) (by rw [hacc,stepS];exact RI.loud hRI hnq.2 _ (fun hnc=>hDn hnc _ _ _ d1 _)) (inv _ (hf1 hsd) (hf2 _ ⟨r,d1,d2,rfl⟩)) (c4 r d1 d2).2.2⟩
   split at hh
   ·rename_i f xs heq
    rw [heq]
    have hq:=yF (nx:=nx) (a:=lV nc ops a0 i) (.inl ⟨f,xs,heq⟩)
    exact callc f _ xs ⟨fun t ids=>⟨(hq.1 t ids).1,(hq.1 t ids).2.1,fun h=>⟨((hq.1 t ids).2.2 h).1 i,((hq.1 t ids).2.2 h).2⟩⟩,hq.2⟩ (fun h=>by unfold fO;rw [hg];simp only;rw [heq];exact h) (fun e h=>by unfold iy;rw [hg];simp only;rw [heq];exact h) hh
   ·rename_i f cap xs heq
    rw [heq]
    have hq:=yF (nx:=nx) (a:=lV nc ops a0 i) (.inr ⟨_,xs,heq⟩)
    exact callc f _ (xs++cap) ⟨fun t ids=>⟨(hq.1 t ids).1,(hq.1 t ids).2.1,fun h=>⟨((hq.1 t ids).2.2 h).1 i,((hq.1 t ids).2.2 h).2⟩⟩,hq.2⟩ (fun h=>by unfold fO;rw [hg];simp only;rw [heq];exact h) (fun e h=>by unfold iy;rw [hg];simp only;rw [heq];exact h) hh
   ·rename_i op h1 h2
    have e1:jg (HT2 P) (DS.of D) s.M (nx+stride*i) (o.op.map (dA s.S))=(az s.M (nx+stride*i) (o.op.map (dA s.S))).2.2:=by
     unfold jg;split
     ·rename_i f xs heq;exact absurd heq (h1 f xs)
     ·rename_i f cap xs heq;exact absurd heq (h2 f cap xs)
     ·rfl
    have e2:∀e,ku (DS.of D) s.M (nx+stride*i) e (o.op.map (dA s.S))=(e=((az s.M (nx+stride*i) (o.op.map (dA s.S))).1,(az s.M (nx+stride*i) (o.op.map (dA s.S))).2.1)):=fun e=>by
     unfold ku;split
     ·rename_i f xs heq;exact absurd heq (h1 f xs)
     ·rename_i f cap xs heq;exact absurd heq (h2 f cap xs)
     ·rfl
    rw [e1]
    simp only [e2]
    refine ⟨hh.1,⟨_,rfl⟩,?_⟩
    rintro e rfl
    have hus:Told nx (lV nc ops a0 i) o i (ig (az s.M (nx+stride*i) (o.op.map (dA s.S))).2.1) (iP o s.S) :=
     ⟨fun h=>⟨by rw [(zx hRI h _ _).1];rfl,zk hRI h⟩,fun h=>⟨by rw [(qF hRI h _ _).1];rfl,(qF hRI h s.M 0).2⟩,fun h=>⟨by rw [(tu hRI h _ _).1];intro x hx;simp at hx;subst hx;unfold uA stride;omega,(tu hRI h s.M 0).2⟩⟩
    exact ⟨ck _ hus,next _ _ _ rfl rfl (hent _ hus) (by rw [hacc,stepS];exact RI.exec hRI) (inv _ (by unfold fO;rw [hg];simp only;rw [e1];exact hh.1) (by unfold iy;rw [hg];simp only;rw [e2])) hh.2⟩
  simp only [hops] at h
  cases hg:o.guard with
  | none =>
   rw [hg] at h
   exact run (by unfold gd;rw [hg]) h
  | some jw =>
   obtain ⟨j,want⟩:=jw
   rw [hg] at h
   simp only at h
   cases hd:(ops[j]?).bind (·.dst) with
   | none=>rw [hd] at h;exact h.elim
   | some d =>
    rw [hd] at h
    simp only [Option.map_some] at h
    generalize hv:aA d s.sl=v at h
    cases v with
    | bool b =>
     simp only at h
     have hv':s.S d=.bool b:=hv
     have hgd:gd ops o s.S=some (b==want):=by unfold gd;rw [hg];simp only [hd,Option.map_some,hv']
     by_cases hbw:b=want
     ·exact run (by rw [hgd];simp [hbw]) (h.1 hbw)
     ·refine ⟨o,hoi,?_⟩
      have:(b==want)=false:=by simpa using hbw
      unfold fO iy
      rw [hgd,this]
      simp only
      refine ⟨trivial,⟨_,rfl⟩,?_⟩
      rintro e rfl
      exact ⟨ck _ tskip,next [] (.tup []) _ rfl rfl (hent [] tskip) (by rw [hacc,stepS];exact RI.skip hRI (by rw [hg];simp) (by intro x hx;cases hx)) (inv _ (by unfold fO;rw [hgd,this];trivial) (by unfold iy;rw [hgd,this])) (h.2 hbw)⟩
    | tup cs =>
     cases cs with
     | cons _ _=>exact h.elim
     | nil =>
      simp only at h
      have hv':s.S d=.tup []:=hv
      have hgd:gd ops o s.S=some false:=by unfold gd;rw [hg];simp only [hd,Option.map_some,hv']
      refine ⟨o,hoi,?_⟩
      unfold fO iy
      rw [hgd]
      simp only
      refine ⟨trivial,⟨_,rfl⟩,?_⟩
      rintro e rfl
      exact ⟨ck _ tskip,next [] (.tup []) _ rfl rfl (hent [] tskip) (by rw [hacc,stepS];exact RI.skip hRI (by rw [hg];simp) (by intro x hx;cases hx)) (inv _ (by unfold fO;rw [hgd];trivial) (by unfold iy;rw [hgd])) h⟩
    | _=>exact h.elim
theorem zI (nc:Bool) {P:Program} {k:List HI} {Q:HE->St->Prop} {s:St} {ops:List aB} {masks:List Nat} (ro0 old0:List Nat) (h1:mD masks ops=true) (h2:uH nc masks ops (ro0,ro0++old0,old0)=true) (D:FuncId->List HV->HV->Prop) (h0:∀t∈ro0,(aA t s.sl).deep=[]/\aA t s.sl≠.nils) (h00:∀t∈old0,(∀x∈(aA t s.sl).deep,x<s.nx)/\aA t s.sl≠.nils) (h:hx P (.o (CS P D) ops ops 0::k) Q s) (hDn:nc=true->∀f args r,D f args r->∀fr,(unpack fr r).1.inn F0):hx P (.c (.region (some masks) ops)::k) Q s:=by
 refine Nq (Weak.refl s) ?_
 refine ⟨h1,fun hI=>.inl ⟨DS.of D,?_⟩⟩
 have hlit:∀i o,ops[i]?=some o->lL o=true:=fun i o ho=>(jY h1 ho).2.1
 have hI0:Inv s.nx (fun k=>k<0) s.S s.M:=by
  have:(fun k:Nat=>k<0)=fun _=>False:=by funext k;exact propext ⟨fun h=>by omega,fun h=>h.elim⟩
  rw [this];exact hI
 have hRI:RI s.nx (lV nc ops (ro0,ro0++old0,old0) 0) s.S:=by
  refine ⟨fun t ht x hx=>?_,fun t ht=>?_,fun t ht=>(h00 t ht).1⟩
  ·have h3:=(h0 t ht).1
   have h4:s.S t=aA t s.sl:=rfl
   rw [h4,h3] at hx
   cases hx
  ·rcases List.mem_append.1 ht with ht|ht
   ·exact (h0 t ht).2
   ·exact (h00 t ht).2
 unfold hx at h
 have:=LX hlit hDn h2 ops 0 [] s rfl rfl (by simp) (by simp) hRI hI0 (by simp) h
 rw [List.range_eq_range']
 exact this
theorem lg {P:Program} {k:List HI} {Q:HE->St->Prop} {s:St} {ops:List aB} {masks:List Nat} (ro0 old0:List Nat) (h1:mD masks ops=true) (h2:uH true masks ops (ro0,ro0++old0,old0)=true) (D:FuncId->List HV->HV->Prop) (h0:∀t∈ro0,(aA t s.sl).deep=[]/\aA t s.sl≠.nils) (h00:∀t∈old0,(∀x∈(aA t s.sl).deep,x<s.nx)/\aA t s.sl≠.nils) (h:hx P (.o (CS P D) ops ops 0::k) Q s) (hDn:∀f args r,D f args r->∀fr,(unpack fr r).1.inn F0:=by intro _ _ _ h;exact h.elim):hx P (.c (.region (some masks) ops)::k) Q s :=
 zI true ro0 old0 h1 h2 D h0 h00 h (fun _=>hDn)
theorem JS {P:Program} {k:List HI} {Q:HE->St->Prop} {s:St} {ops:List aB} {masks:List Nat} (ro0 old0:List Nat) (h1:mD masks ops=true) (h2:uH false masks ops (ro0,ro0++old0,old0)=true) (D:FuncId->List HV->HV->Prop) (h0:∀t∈ro0,(aA t s.sl).deep=[]/\aA t s.sl≠.nils) (h00:∀t∈old0,(∀x∈(aA t s.sl).deep,x<s.nx)/\aA t s.sl≠.nils) (h:hx P (.o (CS P D) ops ops 0::k) Q s):hx P (.c (.region (some masks) ops)::k) Q s :=
 zI false ro0 old0 h1 h2 D h0 h00 h (fun h=>by cases h)
end Go.HL
