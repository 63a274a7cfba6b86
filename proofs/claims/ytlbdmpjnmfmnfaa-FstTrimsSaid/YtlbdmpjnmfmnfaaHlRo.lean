import Derived.Test.YtlbdmpjnmfmnfaaHl5
set_option linter.unusedSimpArgs false
set_option linter.unusedVariables false
namespace Go.HL
set_option linter.unnecessarySimpa false
open Go.RowKit
def inT (l:List Nat):HX->Bool
 | .t i=>l.contains i
 | .c _=>false
def lV (l:List Nat):HX->Bool
 | .t i=>l.contains i
 | .c v=>v.deep.isEmpty
abbrev RS:=List Nat×List Nat×List Nat
def quiet (a:RS) (o:aS):Bool:=match o.op with
 | .mv 0 x=>lV a.1 x
 | .mv (_+1) x=>inT a.2.1 x&&inT a.1 x
 | .iaddr _ x y=>lV a.1 x&&lV a.1 y
 | .load _ _ x=>lV a.1 x
 | .nilck x=>lV a.1 x
 | .faddr _ x=>lV a.1 x
 | .mlook _ _ z x k=>z.deep.isEmpty&&lV a.1 x&&lV a.1 k
 | .mlen x=>lV a.1 x
 | .len x=>lV a.1 x
 | .pick c x y=>lV a.1 c&&lV a.1 x&&lV a.1 y
 | .bin _ x y=>lV a.1 x&&lV a.1 y
 | .bld zs ps=>(bz zs).isEmpty&&ps.all fun q=>lV a.1 q.2.2
 | _=>false
def jh (a:RS) (o:aS):Bool:=match o.op with
 | .mv _ x=>inT a.2.1 x
 | _=>false
def without (l:List Nat):Option Nat->List Nat
 | some t=>l.filter (· != t)
 | none=>l
def qh (a:RS) (o:aS):Bool:=match o.op with
 | .mv 0 x=>inT a.2.2 x
 | .mv (_+1) x=>inT a.2.2 x&&inT a.2.1 x
 | .iaddr _ x _=>inT a.2.2 x
 | _=>false
def qP (a:RS) (o:aS):Bool:=match o.op with
 | .load _ _ x=>inT a.2.2 x
 | _=>false
def rG (a:RS) (o:aS):Bool:=match o.op with
 | .bsl _ _ xs=>xs.all (lV a.1)
 | _=>false
def MG (o:aS):Bool:=match o.op with
 | .call ..=>true
 | .callv ..=>true
 | _=>false
def more (c:Bool) (t:Nat) (l:List Nat):List Nat:=if c then t::l else l
def rX (nc:Bool) (a:RS) (o:aS):RS:=match o.guard,o.dst with
 | none,some t=>(more (quiet a o || (nc&&MG o)) t (without a.1 o.dst),more (jh a o) t (without a.2.1 o.dst),more (qh a o) t (without a.2.2 o.dst))
 | some _,some t=>(more (quiet a o || (nc&&MG o)) t (without a.1 o.dst),without a.2.1 o.dst,without a.2.2 o.dst)
 | _,_=>(without a.1 o.dst,without a.2.1 o.dst,without a.2.2 o.dst)
def lM (nc:Bool) (ops:List aS) (a0:RS) (i:Nat):RS:=(ops.take i).foldl (rX nc) a0
def oO (nc:Bool) (masks:List Nat) (all:List aS) (a0:RS):Bool :=
 (List.range all.length).all fun i=>(List.range i).all fun k=>oU masks k i || (match all[k]?,all[i]? with|some x,some y=>!tK x y || quiet (lM nc all a0 k) x || quiet (lM nc all a0 i) y || rG (lM nc all a0 i) y || (rG (lM nc all a0 k) x&&qP (lM nc all a0 i) y)|_,_=>true)
def F0:Nat->Prop:=fun _=>False
structure RI (nx:Nat) (a:RS) (S:Lk):Prop where
 ro:∀t∈a.1,(S t).inn F0
 nn:∀t∈a.2.1,S t≠.nils
 old:∀t∈a.2.2,(S t).inn (·<nx)
theorem Yv {v:HV} (h:v.inn F0):v.deep=[]:=List.eq_nil_iff_forall_not_mem.2 fun x hx=>h x hx
theorem iW {nx:Nat} {a:RS} {S:Lk} (h:RI nx a S) {x:HX} (hx:lV a.1 x=true):(dZ S x).inn F0:=by
 cases x with
 | t i=>exact h.ro i (by simpa [lV] using hx)
 | c v =>
  have hd:v.deep=[]:=by simpa [lV,List.isEmpty_iff] using hx
  intro y hy
  simp only [dZ,hd] at hy
  cases hy
theorem Cm {l:List Nat} {x:HX} (h:inT l x=true):lV l x=true:=by cases x<;>simp_all [inT,lV]
theorem Ad {nx:Nat} {a:RS} {S:Lk} (h:RI nx a S) {x:HX} (hx:inT a.2.1 x=true):dZ S x≠.nils:=by
 cases x with
 | t i=>exact h.nn i (by simpa [inT] using hx)
 | c v=>cases hx
theorem yQ {nx:Nat} {a:RS} {S:Lk} {o:aS} (h:RI nx a S) (hq:quiet a o=true):bz (o.op.map (dZ S)).vals=[]:=by
 obtain ⟨d,op,g⟩:=o
 have one:∀ {x:HX},lV a.1 x=true->(dZ S x).deep=[]:=fun hx=>Yv (iW h hx)
 cases op<;>simp only [quiet] at hq<;>(try cases hq)
 case mv n x=>cases n with
  | zero=>simp [HOp.map,HOp.vals,bz,one hq]
  | succ n=>simp only [Bool.and_eq_true] at hq;simp [HOp.map,HOp.vals,bz,one (Cm hq.2)]
 case pick=>simp only [Bool.and_eq_true] at hq;simp [HOp.map,HOp.vals,bz,one hq.1.1,one hq.1.2,one hq.2]
 case bin=>simp only [Bool.and_eq_true] at hq;simp [HOp.map,HOp.vals,bz,one hq.1,one hq.2]
 case load b sz x=>simp [HOp.map,HOp.vals,bz,one hq]
 case nilck x=>simp [HOp.map,HOp.vals,bz,one hq]
 case faddr d x=>simp [HOp.map,HOp.vals,bz,one hq]
 case mlook ok kk z x k=>simp only [Bool.and_eq_true] at hq;simp [HOp.map,HOp.vals,bz,one hq.1.2,one hq.2]
 case mlen x=>simp [HOp.map,HOp.vals,bz,one hq]
 case iaddr=>simp only [Bool.and_eq_true] at hq;simp [HOp.map,HOp.vals,bz,one hq.1,one hq.2]
 case len=>simp [HOp.map,HOp.vals,bz,one hq]
 case bld zs ps =>
  simp only [Bool.and_eq_true,List.all_eq_true] at hq
  refine List.eq_nil_iff_forall_not_mem.2 fun x hx=>?_
  obtain ⟨v,hv,hxv⟩:=mem_deepL.1 hx
  simp only [HOp.map,HOp.vals,List.map_map,List.mem_map,Function.comp] at hv
  obtain ⟨q,hq1,rfl⟩:=hv
  rw [one (hq.2 q hq1)] at hxv
  cases hxv
theorem IG {nx:Nat} {a:RS} {S:Lk} (h:RI nx a S) {zs:List HV} {ps:List (Nat×Nat×HX)} (hq:((bz zs).isEmpty&&ps.all fun q=>lV a.1 q.2.2)=true):(HV.agg (kJ zs (ps.map fun p=>(p.1,p.2.1,dZ S p.2.2))).1).inn F0:=by
 simp only [Bool.and_eq_true,List.all_eq_true,List.isEmpty_iff] at hq
 have h1:innL F0 zs:=innL_iff.2 (by rw [hq.1];simp)
 have h2:=Bd (ps:=ps.map fun p=>(p.1,p.2.1,dZ S p.2.2)) h1 (fun q hq'=>by
  obtain ⟨p,hp,rfl⟩:=List.mem_map.1 hq'
  exact iW h (hq.2 p hp))
 intro x hx
 exact innL_iff.1 h2 x hx
theorem y7 {nx:Nat} {a:RS} {S:Lk} {o:aS} (h:RI nx a S) (hq:quiet a o=true) (L:Lk) (fr:Nat):(aH L fr (o.op.map (dZ S))).2.1=[]/\(aH L fr (o.op.map (dZ S))).1.inn F0/\(jh a o=true->(aH L fr (o.op.map (dZ S))).1≠.nils):=by
 obtain ⟨d,op,g⟩:=o
 cases op<;>simp only [quiet] at hq<;>(try cases hq)
 case mv n x=>cases n with
  | zero=>exact ⟨by cases hv:dZ S x<;>simp [HOp.map,aH,hv],by have:=iW h hq;cases hv:dZ S x<;>simpa [HOp.map,aH,hv] using this,fun hk=>by have:=Ad h hk;cases hv:dZ S x<;>simp_all [HOp.map,aH]⟩
  | succ n =>
   simp only [Bool.and_eq_true] at hq
   have h1:=Ad h hq.1
   have h2:=iW h (Cm hq.2)
   refine ⟨by cases hv:dZ S x<;>simp_all [HOp.map,aH],by cases hv:dZ S x<;>simp_all [HOp.map,aH],fun _=>by cases hv:dZ S x<;>simp_all [HOp.map,aH]⟩
 case pick c x y =>
  simp only [Bool.and_eq_true] at hq
  have h1:=iW h hq.1.2
  have h2:=iW h hq.2
  refine ⟨?_,?_,fun hk=>by simp [jh] at hk⟩
  ·simp only [HOp.map,aH]
   repeat' split
   all_goals rfl
  ·simp only [HOp.map,aH]
   split
   ·split
    ·intro z hz;cases hz
    ·simp only;split
     ·exact h1
     ·exact h2
   ·exact dE
 case bin op x y=>exact ⟨rfl,FZ,fun hk=>by simp [jh] at hk⟩
 case load b sz x =>
  have h1:=iW h hq
  refine ⟨?_,?_,fun hk=>by simp [jh] at hk⟩
  ·cases b<;>cases hv:dZ S x<;>simp [HOp.map,aH,hv]
  ·cases b<;>cases hv:dZ S x<;>(simp only [HOp.map,aH,hv];rw [hv] at h1)
   all_goals first|exact dE|skip
   ·simp only [vK] at h1;exact h1.getD _
   ·exact (show False from h1 _ (List.mem_singleton.2 rfl)).elim
   ·simp only [vK] at h1;simp only [if_true,ou];exact h1.win _ _
   ·exact (show False from h1 _ (List.mem_singleton.2 rfl)).elim
 case nilck x =>
  have h1:=iW h hq
  refine ⟨?_,?_,fun hk=>by simp [jh] at hk⟩
  ·cases hv:dZ S x<;>simp [HOp.map,aH,hv]
  ·cases hv:dZ S x<;>(simp only [HOp.map,aH,hv];rw [hv] at h1)
   all_goals first|exact dE|exact h1
 case faddr d x =>
  have h1:=iW h hq
  refine ⟨?_,?_,fun hk=>by simp [jh] at hk⟩
  ·cases hv:dZ S x<;>simp [HOp.map,aH,hv]
  ·cases hv:dZ S x<;>(simp only [HOp.map,aH,hv];rw [hv] at h1)
   all_goals first|exact dE|skip
   ·simpa using h1
   ·exact (show False from h1 _ (List.mem_singleton.2 rfl)).elim
 case mlook ok kk z x k =>
  simp only [Bool.and_eq_true,List.isEmpty_iff] at hq
  have hz:z.inn F0:=fun y hy=>by rw [hq.1.1] at hy;cases hy
  have h1:=iW h hq.1.2
  refine ⟨?_,?_,fun hk=>by simp [jh] at hk⟩
  ·simp only [HOp.map,aH]
   repeat' split
   all_goals rfl
  ·simp only [HOp.map,aH]
   cases hv:dZ S x<;>(simp only;rw [hv] at h1)
   all_goals first|exact dE|skip
   ·exact ni hz
   ·simp only [wP] at h1
    split
    ·exact ni (h1.getD _)
    ·exact ni hz
   ·exact (show False from h1 _ (List.mem_singleton.2 rfl)).elim
 case mlen x =>
  have h1:=iW h hq
  refine ⟨?_,?_,fun hk=>by simp [jh] at hk⟩
  ·cases hv:dZ S x<;>simp only [HOp.map,aH,hv]<;>split<;>rfl
  ·cases hv:dZ S x<;>simp only [HOp.map,aH,hv]<;>first|exact jr|exact dE|(split<;>first|exact jr|exact dE)
 case iaddr sz x y =>
  simp only [Bool.and_eq_true] at hq
  have h1:=iW h hq.1
  refine ⟨?_,?_,fun hk=>by simp [jh] at hk⟩
  ·cases hv:dZ S y<;>cases hw:dZ S x<;>simp [HOp.map,aH,hv,hw]
  ·cases hv:dZ S y<;>cases hw:dZ S x<;>(simp only [HOp.map,aH,hv,hw];rw [hw] at h1)
   all_goals first|exact dE|skip
   ·simpa using h1
   ·exact (show False from h1 _ (List.mem_singleton.2 rfl)).elim
 case bld zs ps=>exact ⟨rfl,IG h hq,fun hk=>by simp [jh] at hk⟩
 case len x =>
  refine ⟨by cases hv:dZ S x<;>simp [HOp.map,aH,hv],?_,fun hk=>by simp [jh] at hk⟩
  cases hv:dZ S x<;>simp only [HOp.map,aH,hv]<;>first|exact jr|exact dE
theorem wQ {nx:Nat} {a:RS} {S:Lk} {o:aS} (h:(∃f xs,o.op.map (dZ S)=.call f xs)\/∃x xs,o.op.map (dZ S)=.callv x xs):(∀t ids,(quiet a o=true->t=([]:List Nat)/\ids=([]:List Nat))/\(qP a o=true->t=[]/\∀x∈ids,x<nx)/\(rG a o=true->(∀i,∀x∈t,uj nx i x)/\ids=[]))/\(quiet a o=false/\jh a o=false/\qh a o=false):=by
 obtain ⟨d,op,g⟩:=o
 cases op<;>simp_all [HOp.map,quiet,qP,rG,jh,qh]
theorem I8 {us:List Upd}:∀ {S:Lk} {t:Nat},(S t).inn F0->(qE S us t).inn F0:=by
 induction us with
 | nil=>intro S t h;exact h
 | cons u r ih=>intro S t h;cases u with
  | put=>exact ih h
  | kill id len=>exact ih (S:=fun t=>(S t).kill id len) (tH id len _ h)
theorem NY {v:HV} (h:v≠.nils) (id len:Nat):v.kill id len≠.nils:=by
 cases v<;>simp_all [HV.kill]<;>split<;>simp
theorem QP {us:List Upd}:∀ {S:Lk} {t:Nat},S t≠.nils->qE S us t≠.nils:=by
 induction us with
 | nil=>intro S t h;exact h
 | cons u r ih=>intro S t h;cases u with
  | put=>exact ih h
  | kill id len=>exact ih (S:=fun t=>(S t).kill id len) (NY h id len)
theorem pG {l:List Nat} {d:Option Nat} {t:Nat} (h:t∈without l d):t∈l/\d≠some t:=by
 cases d with
 | none=>exact ⟨h,by simp⟩
 | some k =>
  simp only [without,List.mem_filter,bne_iff_ne,ne_eq] at h
  exact ⟨h.1,fun e=>h.2 (by cases e;rfl)⟩
theorem LX {p:Nat->Prop} {us:List Upd}:∀ {S:Lk} {t:Nat},(S t).inn p->(qE S us t).inn p:=by
 induction us with
 | nil=>intro S t h;exact h
 | cons u r ih=>intro S t h;cases u with
  | put=>exact ih h
  | kill id len=>exact ih (S:=fun t=>(S t).kill id len) (tH id len _ h)
theorem Dz {nx:Nat} {a:RS} {S:Lk} {o:aS} (h:RI nx a S) (hq:jh a o=true) (L:Lk) (fr:Nat):(aH L fr (o.op.map (dZ S))).1≠.nils:=by
 obtain ⟨d,op,g⟩:=o
 cases op<;>simp only [jh] at hq<;>(try cases hq)
 rename_i n x
 have h1:=Ad h hq
 cases n<;>cases hv:dZ S x<;>simp_all [HOp.map,aH]
theorem vV {nx:Nat} {a:RS} {S:Lk} (h:RI nx a S) {x:HX} (hx:inT a.2.2 x=true):(dZ S x).inn (·<nx):=by
 cases x with
 | t i=>exact h.old i (by simpa [inT] using hx)
 | c v=>cases hx
theorem DT {nx:Nat} {a:RS} {S:Lk} {o:aS} (h:RI nx a S) (hq:qh a o=true) (L:Lk) (fr:Nat):(aH L fr (o.op.map (dZ S))).1.inn (·<nx):=by
 obtain ⟨d,op,g⟩:=o
 cases op<;>simp only [qh] at hq<;>(try cases hq)
 case mv n x=>cases n with
  | zero =>
   have h1:=vV h hq
   cases hv:dZ S x<;>(rw [hv] at h1;simpa [HOp.map,aH,hv] using h1)
  | succ n =>
   simp only [Bool.and_eq_true] at hq
   have h1:=vV h hq.1
   have h2:=Ad h hq.2
   cases hv:dZ S x<;>first|exact absurd hv h2|(rw [hv] at h1;simpa [HOp.map,aH,hv] using h1)
 case iaddr sz x y =>
  have h1:=vV h hq
  cases hv:dZ S y<;>cases hw:dZ S x<;>(simp only [HOp.map,aH,hv,hw];rw [hw] at h1)
  all_goals first|exact dE|skip
  ·simpa using h1
  ·intro z hz
   exact h1 z hz
theorem o9 {nx:Nat} {a:RS} {S:Lk} {o:aS} (h:RI nx a S) (hq:qP a o=true) (L:Lk) (fr:Nat):(aH L fr (o.op.map (dZ S))).2.1=[]/\∀x∈jb o S,x<nx:=by
 obtain ⟨d,op,g⟩:=o
 cases op<;>simp only [qP] at hq<;>(try cases hq)
 rename_i b sz x
 have h1:=vV h hq
 refine ⟨?_,fun z hz=>h1 z ?_⟩
 ·cases hv:dZ S x<;>cases b<;>simp [HOp.map,aH,hv]
 ·simpa [jb,HOp.map,HOp.vals,bz] using hz
theorem IR {L:Lk} {v:HV} (h:v.deep=[]):(takeC L v).2.1=[]:=by
 cases v<;>simp_all [takeC,HV.deep]
theorem Hm:∀ {l:List HV} {L:Lk},bz l=[]->(gu L l).2.1=[]:=by
 intro l
 induction l with
 | nil=>intro L _;rfl
 | cons v r ih =>
  intro L h
  simp only [bz,List.append_eq_nil_iff] at h
  simp only [gu,IR h.1,Lk.upd,List.nil_append]
  exact ih h.2
theorem rF {nx:Nat} {a:RS} {S:Lk} {o:aS} (h:RI nx a S) (hq:rG a o=true) (L:Lk) (fr:Nat):iQ (aH L fr (o.op.map (dZ S))).2.1=[fr]/\jb o S=[]:=by
 obtain ⟨d,op,g⟩:=o
 cases op<;>simp only [rG] at hq<;>(try cases hq)
 rename_i sz n xs
 have hd:bz (xs.map (dZ S))=[]:=by
  rw [List.eq_nil_iff_forall_not_mem]
  intro z hz
  rw [mem_deepL] at hz
  obtain ⟨v,hv,hz⟩:=hz
  obtain ⟨x,hx,rfl⟩:=List.mem_map.1 hv
  have:=Yv (iW h (List.all_eq_true.1 hq x hx))
  rw [this] at hz;cases hz
 have hd2:bz ((xs.map (dZ S)).flatMap cellsOf)=[]:=by
  rw [List.eq_nil_iff_forall_not_mem]
  intro z hz
  have:=uC hz
  rw [hd] at this;cases this
 refine ⟨?_,by simpa [jb,HOp.map,HOp.vals] using hd⟩
 simp only [HOp.map,aH,Hm hd2,List.nil_append]
 rfl
theorem RI.rest {nx:Nat} {a:RS} {S:Lk} (h:RI nx a S) {o:aS} (e:HV×List Upd):RI nx (without a.1 o.dst,without a.2.1 o.dst,without a.2.2 o.dst) (kG o e S):=by
 refine ⟨fun t ht=>?_,fun t ht=>?_,fun t ht=>?_⟩
 ·obtain ⟨h1,h2⟩:=pG ht
  simp only [kG,if_neg h2]
  exact I8 (h.ro t h1)
 ·obtain ⟨h1,h2⟩:=pG ht
  simp only [kG,if_neg h2]
  exact QP (h.nn t h1)
 ·obtain ⟨h1,h2⟩:=pG ht
  simp only [kG,if_neg h2]
  exact LX (h.old t h1)
theorem uh {c:Bool} {t u:Nat} {l:List Nat} (h:u∈more c t l):(c=true/\u=t)\/u∈l:=by
 unfold more at h
 split at h
 ·rename_i hc
  rcases List.mem_cons.1 h with h|h
  ·exact .inl ⟨hc,h⟩
  ·exact .inr h
 ·exact .inr h
theorem RI.step {nc:Bool} {nx:Nat} {a:RS} {S:Lk} (h:RI nx a S) {o:aS} (e:HV×List Upd) (h1:(quiet a o || (nc&&MG o))=true->e.1.inn F0) (h2:o.guard=none->jh a o=true->e.1≠.nils) (h3:o.guard=none->qh a o=true->e.1.inn (·<nx)):RI nx (rX nc a o) (kG o e S):=by
 have hr:=h.rest (o:=o) e
 unfold rX
 split
 ·rename_i t hg hd
  refine ⟨fun u hu=>?_,fun u hu=>?_,fun u hu=>?_⟩
  ·rcases uh hu with ⟨hc,rfl⟩|hu
   ·simp only [kG,hd,if_true];exact h1 hc
   ·exact hr.ro u hu
  ·rcases uh hu with ⟨hc,rfl⟩|hu
   ·simp only [kG,hd,if_true];exact h2 hg hc
   ·exact hr.nn u hu
  ·rcases uh hu with ⟨hc,rfl⟩|hu
   ·simp only [kG,hd,if_true];exact h3 hg hc
   ·exact hr.old u hu
 ·rename_i t hg hd
  refine ⟨fun u hu=>?_,hr.nn,hr.old⟩
  rcases uh hu with ⟨hc,rfl⟩|hu
  ·simp only [kG,hd,if_true];exact h1 hc
  ·exact hr.ro u hu
 ·exact hr
theorem RI.loud {nc:Bool} {nx:Nat} {a:RS} {S:Lk} (h:RI nx a S) {o:aS} (hq:quiet a o=false/\jh a o=false/\qh a o=false) (e:HV×List Upd) (hn:nc=true->e.1.inn F0):RI nx (rX nc a o) (kG o e S) :=
 h.step e (fun hh=>hn (by rw [hq.1,Bool.false_or] at hh;exact (Bool.and_eq_true_iff.1 hh).1)) (fun _ h=>by rw [hq.2.1] at h;cases h) (fun _ h=>by rw [hq.2.2] at h;cases h)
theorem RI.skip {nc:Bool} {nx:Nat} {a:RS} {S:Lk} (h:RI nx a S) {o:aS} (hg:o.guard≠none) {e:HV×List Upd} (hn:e.1.inn F0):RI nx (rX nc a o) (kG o e S) :=
 h.step e (fun _=>hn) (fun h=>absurd h hg) (fun h=>absurd h hg)
theorem RI.exec {nc:Bool} {nx:Nat} {a:RS} {S M:Lk} {fr:Nat} (h:RI nx a S) {o:aS}:RI nx (rX nc a o) (kG o ((aH M fr (o.op.map (dZ S))).1,(aH M fr (o.op.map (dZ S))).2.1) S) :=
 h.step _ (fun hq=>by
  rcases Bool.or_eq_true_iff.1 hq with hq|hq
  ·exact (y7 h hq M fr).2.1
  ·obtain ⟨d,op,g⟩:=o
   replace hq:=(Bool.and_eq_true_iff.1 hq).2
   cases op<;>simp only [MG] at hq<;>(first|exact dE|cases hq)) (fun _ hq=>Dz h hq M fr) (fun _ hq=>DT h hq M fr)
def Told (nx:Nat) (a:RS) (o:aS) (i:Nat) (t ids:List Nat):Prop :=
 (quiet a o=true->t=[]/\ids=[])/\(qP a o=true->t=[]/\∀x∈ids,x<nx)/\(rG a o=true->(∀x∈t,uj nx i x)/\ids=[])
def Gf (nx:Nat) (a:RS) (o:aS) (i:Nat) (W R:List Nat):Prop:=∃t ids,Told nx a o i t ids/\(∀c∈W,c / 2∈t)/\∀c∈R,c / 2∈ids
theorem Told.e {nx:Nat} {a:RS} {o o2:aS} {i:Nat} {us:List Upd} {S:Lk} (h:Told nx a o i (iQ us) (jb o2 S)):Gf nx a o i (rZ o2 S us) (oG o2 S):=⟨_,_,h,fun _ hc=>BR hc,fun _ hc=>pX hc⟩
theorem AX {nc:Bool} {P:Program} {D:FuncId->List HV->HV->Prop} {ops:List aS} {masks:List Nat} {nx:Nat} {K:St->Prop} {a0:RS} (hlit:∀ (i:Nat) (o:aS),ops[i]?=some o->lC o=true) (hDn:nc=true->∀f args r,D f args r->∀fr,(unpack fr r).1.inn F0) (hns:oO nc masks ops a0=true):∀ (rest:List aS) (i:Nat) (log:lI) (s:St),ops.drop i=rest->s.nx=nx->(∀q∈log,q.1<i)->(∀q∈log,∀o,ops[q.1]?=some o->Gf nx (lM nc ops a0 q.1) o q.1 q.2.1 q.2.2)->RI nx (lM nc ops a0 i) s.S->Inv nx (fun k=>k<i) s.S s.M->(∀q∈log,∀x∈q.2.2,oP nx (fun k=>k<q.1) (x / 2))->hops (CS P D) ops rest i K s ->
  dr (HT P) D ops masks nx (fun S M=>∃s':St,s'.S=S/\s'.M=M/\s'.nx=nx/\K s') (List.range' i rest.length) log s.S s.M:=by
 intro rest
 induction rest with
 | nil=>intro i log s _ hnx _ _ _ _ _ h;exact ⟨s,rfl,rfl,hnx,h⟩
 | cons o rest ih =>
  intro i log s hdrop hnx hlog hlq hRI hI hlb h
  have hoi:ops[i]?=some o:=by
   have:=congrArg (fun l:List aS=>l[0]?) hdrop
   simpa using this
  have hdrop':ops.drop (i+1)=rest:=by
   have:=congrArg (List.drop 1) hdrop
   simpa [List.drop_drop,Nat.add_comm] using this
  simp only [List.length_cons,List.range'_succ]
  have hil:=(List.getElem?_eq_some_iff.1 hoi).1
  have ck:∀e:HV×List Upd,Told nx (lM nc ops a0 i) o i (iQ e.2) (jb o s.S)->∀q∈log,chk masks ops i o e s.S q:=by
   intro e he q hq b1 _ o' ho' hs
   have hlt:=hlog q hq
   obtain ⟨t,ids,hl,hlt1,hlt2⟩:=hlq q hq o' ho'
   simp only [oO,List.all_eq_true,List.mem_range,Bool.or_eq_true] at hns
   have h:=hns i hil q.1 hlt
   rw [ho',hoi] at h
   simp only [Bool.or_eq_true,Bool.not_eq_true',Bool.and_eq_true] at h
   have w2:=fun c (hc:c∈rZ o s.S e.2)=>BR hc
   have r2:=fun c (hc:c∈oG o s.S)=>pX hc
   rcases h with h|(((h|h)|h)|h)|h
   ·rw [b1] at h;cases h
   ·rw [h] at hs;cases hs
   ·obtain ⟨p1,p2⟩:=hl.1 h
    rw [p1] at hlt1
    rw [p2] at hlt2
    exact ⟨fun x _ hx=>by have:=hlt2 x hx;simp at this,fun x hx=>by have:=hlt1 x hx;simp at this⟩
   ·obtain ⟨p1,p2⟩:=he.1 h
    rw [p1] at w2
    rw [p2] at r2
    exact ⟨fun x hx=>by have:=w2 x hx;simp at this,fun x _ hx=>by have:=r2 x hx;simp at this⟩
   ·obtain ⟨p3,p4⟩:=he.2.2 h
    rw [p4] at r2
    refine ⟨fun x hx hx'=>?_,fun x _ hx'=>by have:=r2 x hx';simp at this⟩
    have h3:=p3 _ (w2 x hx)
    have h4:=hlb q hq x hx'
    rcases h4 with h4|⟨k,h4,h5⟩
    ·unfold uj at h3;omega
    ·have:k+1<=i:=by omega
     have:=Nat.mul_le_mul_left stride this
     unfold uj at h3 h5
     omega
   ·obtain ⟨p1,p2⟩:=hl.2.2 h.1
    obtain ⟨p3,p4⟩:=he.2.1 h.2
    rw [p3] at w2
    refine ⟨fun x hx=>by have:=w2 x hx;simp at this,fun x hx hx'=>?_⟩
    have h5:=p1 _ (hlt1 x hx)
    have h6:=p4 _ (r2 x hx')
    unfold uj at *
    omega
  have hacc:lM nc ops a0 (i+1)=rX nc (lM nc ops a0 i) o:=by
   unfold lM
   rw [List.take_succ_eq_append_getElem hil,List.foldl_append]
   have:ops[i]=o:=by rw [List.getElem?_eq_getElem hil] at hoi;exact Option.some.inj hoi
   rw [this];rfl
  have hent:∀us:List Upd,Told nx (lM nc ops a0 i) o i (iQ us) (jb o s.S)->∀q∈(i,rZ o s.S us,oG o s.S)::log,∀o',ops[q.1]?=some o'->Gf nx (lM nc ops a0 q.1) o' q.1 q.2.1 q.2.2:=by
   intro us hus q hq o' ho'
   rcases List.mem_cons.1 hq with rfl|hq
   ·rw [hoi] at ho'
    cases ho'
    exact hus.e
   ·exact hlq q hq o' ho'
  have tskip:Told nx (lM nc ops a0 i) o i (iQ []) (jb o s.S):=⟨fun h=>⟨rfl,yQ hRI h⟩,fun h=>⟨rfl,(o9 hRI h s.M 0).2⟩,fun h=>⟨by simp [iQ],(rF hRI h s.M 0).2⟩⟩
  have stepS:∀ (us:List Upd) (v:HV),((s.upd us).put o.dst v).S=kG o (v,us) s.S:=fun us v=>by rw [St.put_S,St.upd_S];rfl
  have stepM:∀ (us:List Upd) (v:HV),((s.upd us).put o.dst v).M=qL (v,us) s.M:=fun us v=>by rw [St.put_M,St.upd_M];rfl
  have hids:∀x∈jb o s.S,oP nx (fun k=>k<i) x:=fun x hx=>innL_iff.1 (sU hI (hlit i o hoi)) x hx
  have inv:∀e,gp (HT P) D ops (nx+stride*i) o s.S s.M->iI D ops (nx+stride*i) o s.S s.M e->Inv nx (fun k=>k<i+1) (kG o e s.S) (qL e s.M):=fun e hs hre=>by
   obtain ⟨f1,f2,_,_⟩:=mQ hI (hlit i o hoi) hs hre
   have h1:=hI.step (o:=o) f1 f2
   have h2:(fun k=>k<i\/k=i)=(fun k=>k<i+1):=by funext k;exact propext ⟨fun h=>by omega,fun h=>by omega⟩
   rw [h2] at h1
   exact h1
  have next:∀ (us:List Upd) (v:HV) ent,ent.1=i->ent.2.2=oG o s.S->(∀q∈ent::log,∀o',ops[q.1]?=some o'->Gf nx (lM nc ops a0 q.1) o' q.1 q.2.1 q.2.2)->RI nx (lM nc ops a0 (i+1)) ((s.upd us).put o.dst v).S->Inv nx (fun k=>k<i+1) (kG o (v,us) s.S) (qL (v,us) s.M)->hops (CS P D) ops rest (i+1) K ((s.upd us).put o.dst v)->dr (HT P) D ops masks nx (fun S M=>∃s':St,s'.S=S/\s'.M=M/\s'.nx=nx/\K s') (List.range' (i+1) rest.length) (ent::log) (kG o (v,us) s.S) (qL (v,us) s.M):=by
   intro us v ent he he2 hent hri hI' h'
   have:=ih (i+1) (ent::log) ((s.upd us).put o.dst v) hdrop' (by rw [St.put_nx,St.upd_nx];exact hnx) (fun q hq=>by
    rcases List.mem_cons.1 hq with rfl|hq
    ·omega
    ·have:=hlog q hq;omega) hent hri (by rw [stepS,stepM];exact hI') (fun q hq x hx=>by
    rcases List.mem_cons.1 hq with rfl|hq
    ·rw [he2] at hx;rw [he];exact hids _ (pX hx)
    ·exact hlb q hq x hx) h'
   rw [stepS,stepM] at this
   exact this
  have hstr:s.nx+stride*(i+1)=nx+stride*i+stride:=by rw [hnx];unfold stride;omega
  have run:gd ops o s.S=some true->hop (CS P D) s i o (hops (CS P D) ops rest (i+1) K)->∃o',ops[i]?=some o'/\gp (HT P) D ops (nx+stride*i) o' s.S s.M/\(∃e,iI D ops (nx+stride*i) o' s.S s.M e)/\∀e,iI D ops (nx+stride*i) o' s.S s.M e->(∀q∈log,chk masks ops i o' e s.S q)/\dr (HT P) D ops masks nx (fun S M=>∃s':St,s'.S=S/\s'.M=M/\s'.nx=nx/\K s') (List.range' (i+1) rest.length) ((i,rZ o' s.S e.2,oG o' s.S)::log) (kG o' e s.S) (qL e s.M):=by
   intro hg hh
   refine ⟨o,hoi,?_⟩
   unfold gp iI
   rw [hg]
   simp only
   have hM:(fun i=>aT i s.st)=s.M:=rfl
   replace hh:=hh.resolve_right (fun h=>h)
   unfold hop0 at hh
   rw [jd,hM,hstr,hnx] at hh
   have callc:∀ (f:FuncId) (args xs:List HV),(∀t ids,Told nx (lM nc ops a0 i) o i t ids)/\(quiet (lM nc ops a0 i) o=false/\jh (lM nc ops a0 i) o=false/\qh (lM nc ops a0 i) o=false)->((HT P f args (D f args)/\∀r,D f args r->r.deep=[]->(bD xs || r.noRd)=true/\(unpack (nx+stride*i) r).2.2<=nx+stride*i+stride)->gp (HT P) D ops (nx+stride*i) o s.S s.M)->(∀e:HV×List Upd,(∃r,D f args r/\r.deep=[]/\e=((unpack (nx+stride*i) r).1,(unpack (nx+stride*i) r).2.1))->iI D ops (nx+stride*i) o s.S s.M e)->(CS P D f args fun r=>(bD xs || r.noRd)=true/\(unpack (nx+stride*i) r).2.2<=nx+stride*i+stride/\hops (CS P D) ops rest (i+1) K ((s.upd (unpack (nx+stride*i) r).2.1).put o.dst (unpack (nx+stride*i) r).1)) ->
     (HT P f args (D f args)/\∀r,D f args r->r.deep=[]->(bD xs || r.noRd)=true/\(unpack (nx+stride*i) r).2.2<=nx+stride*i+stride)/\(∃e:HV×List Upd,∃r,D f args r/\r.deep=[]/\e=((unpack (nx+stride*i) r).1,(unpack (nx+stride*i) r).2.1)) /\
     ∀e:HV×List Upd,(∃r,D f args r/\r.deep=[]/\e=((unpack (nx+stride*i) r).1,(unpack (nx+stride*i) r).2.1))->(∀q∈log,chk masks ops i o e s.S q)/\dr (HT P) D ops masks nx (fun S M=>∃s':St,s'.S=S/\s'.M=M/\s'.nx=nx/\K s') (List.range' (i+1) rest.length) ((i,rZ o s.S e.2,oG o s.S)::log) (kG o e s.S) (qL e s.M):=by
    rintro f args xs hnq hf1 hf2 ⟨c1,⟨r0,c2,c3⟩,c4⟩
    have hsd:HT P f args (D f args)/\∀r,D f args r->r.deep=[]->(bD xs || r.noRd)=true/\(unpack (nx+stride*i) r).2.2<=nx+stride*i+stride:=⟨c1,fun r a b=>⟨(c4 r a b).1,(c4 r a b).2.1⟩⟩
    refine ⟨hsd,⟨_,r0,c2,c3,rfl⟩,?_⟩
    rintro e ⟨r,d1,d2,rfl⟩
    exact ⟨ck _ (hnq.1 _ _),next _ _ _ rfl rfl (hent _ (hnq.1 _ _)) (by rw [hacc,stepS];exact RI.loud hRI hnq.2 _ (fun hnc=>hDn hnc _ _ _ d1 _)) (inv _ (hf1 hsd) (hf2 _ ⟨r,d1,d2,rfl⟩)) (c4 r d1 d2).2.2⟩
   split at hh
   ·rename_i f xs heq
    rw [heq]
    have hq:=wQ (nx:=nx) (a:=lM nc ops a0 i) (.inl ⟨f,xs,heq⟩)
    exact callc f _ xs ⟨fun t ids=>⟨(hq.1 t ids).1,(hq.1 t ids).2.1,fun h=>⟨((hq.1 t ids).2.2 h).1 i,((hq.1 t ids).2.2 h).2⟩⟩,hq.2⟩ (fun h=>by unfold gp;rw [hg];simp only;rw [heq];exact h) (fun e h=>by unfold iI;rw [hg];simp only;rw [heq];exact h) hh
   ·rename_i f cap xs heq
    rw [heq]
    have hq:=wQ (nx:=nx) (a:=lM nc ops a0 i) (.inr ⟨_,xs,heq⟩)
    exact callc f _ (xs++cap) ⟨fun t ids=>⟨(hq.1 t ids).1,(hq.1 t ids).2.1,fun h=>⟨((hq.1 t ids).2.2 h).1 i,((hq.1 t ids).2.2 h).2⟩⟩,hq.2⟩ (fun h=>by unfold gp;rw [hg];simp only;rw [heq];exact h) (fun e h=>by unfold iI;rw [hg];simp only;rw [heq];exact h) hh
   ·rename_i op h1 h2
    have e1:mM (HT P) D s.M (nx+stride*i) (o.op.map (dZ s.S))=(aH s.M (nx+stride*i) (o.op.map (dZ s.S))).2.2:=by
     unfold mM;split
     ·rename_i f xs heq;exact absurd heq (h1 f xs)
     ·rename_i f cap xs heq;exact absurd heq (h2 f cap xs)
     ·rfl
    have e2:∀e,oI D s.M (nx+stride*i) e (o.op.map (dZ s.S))=(e=((aH s.M (nx+stride*i) (o.op.map (dZ s.S))).1,(aH s.M (nx+stride*i) (o.op.map (dZ s.S))).2.1)):=fun e=>by
     unfold oI;split
     ·rename_i f xs heq;exact absurd heq (h1 f xs)
     ·rename_i f cap xs heq;exact absurd heq (h2 f cap xs)
     ·rfl
    rw [e1]
    simp only [e2]
    refine ⟨hh.1,⟨_,rfl⟩,?_⟩
    rintro e rfl
    have hus:Told nx (lM nc ops a0 i) o i (iQ (aH s.M (nx+stride*i) (o.op.map (dZ s.S))).2.1) (jb o s.S) :=
     ⟨fun h=>⟨by rw [(y7 hRI h _ _).1];rfl,yQ hRI h⟩,fun h=>⟨by rw [(o9 hRI h _ _).1];rfl,(o9 hRI h s.M 0).2⟩,fun h=>⟨by rw [(rF hRI h _ _).1];intro x hx;simp at hx;subst hx;unfold uj stride;omega,(rF hRI h s.M 0).2⟩⟩
    exact ⟨ck _ hus,next _ _ _ rfl rfl (hent _ hus) (by rw [hacc,stepS];exact RI.exec hRI) (inv _ (by unfold gp;rw [hg];simp only;rw [e1];exact hh.1) (by unfold iI;rw [hg];simp only;rw [e2])) hh.2⟩
  simp only [hops] at h
  cases hg:o.guard with
  | none =>
   rw [hg] at h
   exact run (by unfold gd;rw [hg]) h
  | some jw =>
   obtain ⟨j,want⟩:=jw
   rw [hg] at h
   simp only at h
   cases hd:(ops[j]?).bind (·.dst) with
   | none=>rw [hd] at h;exact h.elim
   | some d =>
    rw [hd] at h
    simp only [Option.map_some] at h
    generalize hv:aT d s.sl=v at h
    cases v with
    | bool b =>
     simp only at h
     have hv':s.S d=.bool b:=hv
     have hgd:gd ops o s.S=some (b==want):=by unfold gd;rw [hg];simp only [hd,Option.map_some,hv']
     by_cases hbw:b=want
     ·exact run (by rw [hgd];simp [hbw]) (h.1 hbw)
     ·refine ⟨o,hoi,?_⟩
      have:(b==want)=false:=by simpa using hbw
      unfold gp iI
      rw [hgd,this]
      simp only
      refine ⟨trivial,⟨_,rfl⟩,?_⟩
      rintro e rfl
      exact ⟨ck _ tskip,next [] (.tup []) _ rfl rfl (hent [] tskip) (by rw [hacc,stepS];exact RI.skip hRI (by rw [hg];simp) (by intro x hx;cases hx)) (inv _ (by unfold gp;rw [hgd,this];trivial) (by unfold iI;rw [hgd,this])) (h.2 hbw)⟩
    | tup cs =>
     cases cs with
     | cons _ _=>exact h.elim
     | nil =>
      simp only at h
      have hv':s.S d=.tup []:=hv
      have hgd:gd ops o s.S=some false:=by unfold gd;rw [hg];simp only [hd,Option.map_some,hv']
      refine ⟨o,hoi,?_⟩
      unfold gp iI
      rw [hgd]
      simp only
      refine ⟨trivial,⟨_,rfl⟩,?_⟩
      rintro e rfl
      exact ⟨ck _ tskip,next [] (.tup []) _ rfl rfl (hent [] tskip) (by rw [hacc,stepS];exact RI.skip hRI (by rw [hg];simp) (by intro x hx;cases hx)) (inv _ (by unfold gp;rw [hgd];trivial) (by unfold iI;rw [hgd])) h⟩
    | _=>exact h.elim
theorem yU (nc:Bool) {P:Program} {k:List HI} {Q:HE->St->Prop} {s:St} {ops:List aS} {masks:List Nat} (ro0 old0:List Nat) (h1:lL masks ops=true) (h2:oO nc masks ops (ro0,ro0++old0,old0)=true) (D:FuncId->List HV->HV->Prop) (h0:∀t∈ro0,(aT t s.sl).deep=[]/\aT t s.sl≠.nils) (h00:∀t∈old0,(∀x∈(aT t s.sl).deep,x<s.nx)/\aT t s.sl≠.nils) (h:hx P (.o (CS P D) ops ops 0::k) Q s) (hDn:nc=true->∀f args r,D f args r->∀fr,(unpack fr r).1.inn F0):hx P (.c (.region (some masks) ops)::k) Q s:=by
 refine KQ (Weak.refl s) ?_
 refine ⟨h1,fun hI=>.inl ⟨D,?_⟩⟩
 have hlit:∀i o,ops[i]?=some o->lC o=true:=fun i o ho=>(jG h1 ho).2.1
 have hI0:Inv s.nx (fun k=>k<0) s.S s.M:=by
  have:(fun k:Nat=>k<0)=fun _=>False:=by funext k;exact propext ⟨fun h=>by omega,fun h=>h.elim⟩
  rw [this];exact hI
 have hRI:RI s.nx (lM nc ops (ro0,ro0++old0,old0) 0) s.S:=by
  refine ⟨fun t ht x hx=>?_,fun t ht=>?_,fun t ht=>(h00 t ht).1⟩
  ·have h3:=(h0 t ht).1
   have h4:s.S t=aT t s.sl:=rfl
   rw [h4,h3] at hx
   cases hx
  ·rcases List.mem_append.1 ht with ht|ht
   ·exact (h0 t ht).2
   ·exact (h00 t ht).2
 unfold hx at h
 have:=AX hlit hDn h2 ops 0 [] s rfl rfl (by simp) (by simp) hRI hI0 (by simp) h
 rw [List.range_eq_range']
 exact this
theorem ji {P:Program} {k:List HI} {Q:HE->St->Prop} {s:St} {ops:List aS} {masks:List Nat} (ro0 old0:List Nat) (h1:lL masks ops=true) (h2:oO true masks ops (ro0,ro0++old0,old0)=true) (D:FuncId->List HV->HV->Prop) (h0:∀t∈ro0,(aT t s.sl).deep=[]/\aT t s.sl≠.nils) (h00:∀t∈old0,(∀x∈(aT t s.sl).deep,x<s.nx)/\aT t s.sl≠.nils) (h:hx P (.o (CS P D) ops ops 0::k) Q s) (hDn:∀f args r,D f args r->∀fr,(unpack fr r).1.inn F0:=by intro _ _ _ h;exact h.elim):hx P (.c (.region (some masks) ops)::k) Q s :=
 yU true ro0 old0 h1 h2 D h0 h00 h (fun _=>hDn)
theorem LK {P:Program} {k:List HI} {Q:HE->St->Prop} {s:St} {ops:List aS} {masks:List Nat} (ro0 old0:List Nat) (h1:lL masks ops=true) (h2:oO false masks ops (ro0,ro0++old0,old0)=true) (D:FuncId->List HV->HV->Prop) (h0:∀t∈ro0,(aT t s.sl).deep=[]/\aT t s.sl≠.nils) (h00:∀t∈old0,(∀x∈(aT t s.sl).deep,x<s.nx)/\aT t s.sl≠.nils) (h:hx P (.o (CS P D) ops ops 0::k) Q s):hx P (.c (.region (some masks) ops)::k) Q s :=
 yU false ro0 old0 h1 h2 D h0 h00 h (fun h=>by cases h)
theorem EK (nc:Bool) {P:Program} {k:List HI} {Q:HE->St->Prop} {s:St} {ops:List aS} {masks:List Nat} (n:Nat) (ro0 old0:List Nat) (h1:lL masks ops=true) (hs:sQ masks ops n=true) (h2:oO nc masks (ops.take n) (ro0,ro0++old0,old0)=true) (D:FuncId->List HV->HV->Prop) (h0:∀t∈ro0,(aT t s.sl).deep=[]/\aT t s.sl≠.nils) (h00:∀t∈old0,(∀x∈(aT t s.sl).deep,x<s.nx)/\aT t s.sl≠.nils)
  (h:hx P (.o (CS P D) (ops.take n) (ops.take n) 0::.c (.region none (ops.drop n))::k) Q s) (hDn:nc=true->∀f args r,D f args r->∀fr,(unpack fr r).1.inn F0):hx P (.c (.region (some masks) ops)::k) Q s:=by
 refine KQ (Weak.refl s) ?_
 refine ⟨h1,fun hI=>.inr ⟨n,D,hs,?_⟩⟩
 have hlit:∀i o,(ops.take n)[i]?=some o->lC o=true:=fun i o ho=>by
  have hi:i<n:=by
   have:=(List.getElem?_eq_some_iff.1 ho).1
   rw [List.length_take] at this;omega
  rw [List.getElem?_take_of_lt hi] at ho
  exact (jG h1 ho).2.1
 have hI0:Inv s.nx (fun k=>k<0) s.S s.M:=by
  have:(fun k:Nat=>k<0)=fun _=>False:=by funext k;exact propext ⟨fun h=>by omega,fun h=>h.elim⟩
  rw [this];exact hI
 have hRI:RI s.nx (lM nc (ops.take n) (ro0,ro0++old0,old0) 0) s.S:=by
  refine ⟨fun t ht x hx=>?_,fun t ht=>?_,fun t ht=>(h00 t ht).1⟩
  ·have h3:=(h0 t ht).1
   have h4:s.S t=aT t s.sl:=rfl
   rw [h4,h3] at hx
   cases hx
  ·rcases List.mem_append.1 ht with ht|ht
   ·exact (h0 t ht).2
   ·exact (h00 t ht).2
 have hn:n<=ops.length:=by
  simp only [sQ,Bool.and_eq_true,decide_eq_true_eq] at hs
  exact hs.1.1
 unfold hx at h
 have:=AX hlit hDn h2 (ops.take n) 0 [] s rfl rfl (by simp) (by simp) hRI hI0 (by simp) h
 rw [List.length_take,Nat.min_eq_left hn,<- List.range_eq_range'] at this
 refine zC ?_ this
 rintro S M ⟨s',a,b,c,s2,d,e⟩
 exact ⟨s',s2,a,b,c,d,e⟩
theorem IB {P:Program} {k:List HI} {Q:HE->St->Prop} {s:St} {ops:List aS} {masks:List Nat} (n:Nat) (ro0 old0:List Nat) (h1:lL masks ops=true) (hs:sQ masks ops n=true) (h2:oO false masks (ops.take n) (ro0,ro0++old0,old0)=true) (D:FuncId->List HV->HV->Prop) (h0:∀t∈ro0,(aT t s.sl).deep=[]/\aT t s.sl≠.nils) (h00:∀t∈old0,(∀x∈(aT t s.sl).deep,x<s.nx)/\aT t s.sl≠.nils)
  (h:hx P (.o (CS P D) (ops.take n) (ops.take n) 0::.c (.region none (ops.drop n))::k) Q s):hx P (.c (.region (some masks) ops)::k) Q s :=
 EK false n ro0 old0 h1 hs h2 D h0 h00 h (fun h=>by cases h)
end Go.HL
