import Derived.Test.YtjlidhijnohkbaaHl5
set_option linter.unusedSimpArgs false
set_option linter.unusedVariables false
set_option linter.unnecessarySimpa false
namespace Go.HL
open Go.RowKit
def inT (l:List Nat):HX->Bool
 | .t i=>l.contains i
 | .c _=>false
def lZ (l:List Nat):HX->Bool
 | .t i=>l.contains i
 | .c v=>v.deep.isEmpty
abbrev RS:=List Nat×List Nat×List Nat
def quiet (a:RS) (o:HOper):Bool:=match o.op with
 | .mv 0 x=>lZ a.1 x
 | .mv (_+1) x=>inT a.2.1 x&&inT a.1 x
 | .iaddr _ x y=>lZ a.1 x&&lZ a.1 y
 | .load _ _ x=>lZ a.1 x
 | .nilck x=>lZ a.1 x
 | .faddr _ x=>lZ a.1 x
 | .mlook _ _ z x k=>z.deep.isEmpty&&lZ a.1 x&&lZ a.1 k
 | .mlen x=>lZ a.1 x
 | .len x=>lZ a.1 x
 | .pick c x y=>lZ a.1 c&&lZ a.1 x&&lZ a.1 y
 | .bin _ x y=>lZ a.1 x&&lZ a.1 y
 | .bld zs ps=>(aN zs).isEmpty&&ps.all fun q=>lZ a.1 q.2.2
 | _=>false
def iO (a:RS) (o:HOper):Bool:=match o.op with
 | .mv _ x=>inT a.2.1 x
 | _=>false
def without (l:List Nat):Option Nat->List Nat
 | some t=>l.filter (· != t)
 | none=>l
def rV (a:RS) (o:HOper):Bool:=match o.op with
 | .mv 0 x=>inT a.2.2 x
 | .mv (_+1) x=>inT a.2.2 x&&inT a.2.1 x
 | .iaddr _ x _=>inT a.2.2 x
 | _=>false
def tV (a:RS) (o:HOper):Bool:=match o.op with
 | .load _ _ x=>inT a.2.2 x
 | _=>false
def uz (a:RS) (o:HOper):Bool:=match o.op with
 | .bsl _ _ xs=>xs.all (lZ a.1)
 | _=>false
def Ov (o:HOper):Bool:=match o.op with
 | .call ..=>true
 | .callv ..=>true
 | _=>false
def more (c:Bool) (t:Nat) (l:List Nat):List Nat:=if c then t::l else l
def uN (nc:Bool) (a:RS) (o:HOper):RS:=match o.guard,o.dst with
 | none,some t=>(more (quiet a o || (nc&&Ov o)) t (without a.1 o.dst),more (iO a o) t (without a.2.1 o.dst),more (rV a o) t (without a.2.2 o.dst))
 | some _,some t=>(more (quiet a o || (nc&&Ov o)) t (without a.1 o.dst),without a.2.1 o.dst,without a.2.2 o.dst)
 | _,_=>(without a.1 o.dst,without a.2.1 o.dst,without a.2.2 o.dst)
def l9 (nc:Bool) (ops:List HOper) (a0:RS) (i:Nat):RS:=(ops.take i).foldl (uN nc) a0
def yD (nc:Bool) (masks:List Nat) (all:List HOper) (a0:RS):Bool :=
 (List.range all.length).all fun i=>(List.range i).all fun k=>nN masks k i || (match all[k]?,all[i]? with|some x,some y=>!LK x y || quiet (l9 nc all a0 k) x || quiet (l9 nc all a0 i) y || uz (l9 nc all a0 i) y || (uz (l9 nc all a0 k) x&&tV (l9 nc all a0 i) y)|_,_=>true)
def F0:Nat->Prop:=fun _=>False
structure RI (nx:Nat) (a:RS) (S:Lk):Prop where
 ro:∀t∈a.1,(S t).inn F0
 nn:∀t∈a.2.1,S t≠.nils
 old:∀t∈a.2.2,(S t).inn (·<nx)
theorem SI {v:HV} (h:v.inn F0):v.deep=[]:=zl039.2 fun x hx=>h x hx
theorem gY {nx:Nat} {a:RS} {S:Lk} (h:RI nx a S) {x:HX} (hx:lZ a.1 x=true):(bT S x).inn F0:=by
 cases x with
 | t i=>exact h.ro i (by simpa [lZ] using hx)
 | c v =>
  have hd:v.deep=[]:=by simpa [lZ,qc] using hx
  intro y hy
  simp only [bT,hd] at hy
  cases hy
theorem EW {l:List Nat} {x:HX} (h:inT l x=true):lZ l x=true:=by cases x<;>simp_all [inT,lZ]
theorem Ej {nx:Nat} {a:RS} {S:Lk} (h:RI nx a S) {x:HX} (hx:inT a.2.1 x=true):bT S x≠.nils:=by
 cases x with
 | t i=>exact h.nn i (by simpa [inT] using hx)
 | c v=>cases hx
theorem Cb {nx:Nat} {a:RS} {S:Lk} {o:HOper} (h:RI nx a S) (hq:quiet a o=true):aN (o.op.map (bT S)).vals=[]:=by
 obtain ⟨d,op,g⟩:=o
 have one:∀ {x:HX},lZ a.1 x=true->(bT S x).deep=[]:=fun hx=>SI (gY h hx)
 cases op<;>simp only [quiet] at hq<;>(try cases hq)
 case mv n x=>cases n with
  | zero=>simp [HOp.map,HOp.vals,aN,one hq]
  | succ n=>simp only [aG] at hq;simp [HOp.map,HOp.vals,aN,one (EW hq.2)]
 case pick=>simp only [aG] at hq;simp [HOp.map,HOp.vals,aN,one hq.1.1,one hq.1.2,one hq.2]
 case bin=>simp only [aG] at hq;simp [HOp.map,HOp.vals,aN,one hq.1,one hq.2]
 case load b sz x=>simp [HOp.map,HOp.vals,aN,one hq]
 case nilck x=>simp [HOp.map,HOp.vals,aN,one hq]
 case faddr d x=>simp [HOp.map,HOp.vals,aN,one hq]
 case mlook ok kk z x k=>simp only [aG] at hq;simp [HOp.map,HOp.vals,aN,one hq.1.2,one hq.2]
 case mlen x=>simp [HOp.map,HOp.vals,aN,one hq]
 case iaddr=>simp only [aG] at hq;simp [HOp.map,HOp.vals,aN,one hq.1,one hq.2]
 case len=>simp [HOp.map,HOp.vals,aN,one hq]
 case bld zs ps =>
  simp only [aG,zl014] at hq
  refine zl039.2 fun x hx=>?_
  obtain ⟨v,hv,hxv⟩:=mem_deepL.1 hx
  simp only [HOp.map,HOp.vals,iG,zl023,Function.comp] at hv
  obtain ⟨q,hq1,rfl⟩:=hv
  rw [one (hq.2 q hq1)] at hxv
  cases hxv
theorem JP {nx:Nat} {a:RS} {S:Lk} (h:RI nx a S) {zs:List HV} {ps:List (Nat×Nat×HX)} (hq:((aN zs).isEmpty&&ps.all fun q=>lZ a.1 q.2.2)=true):(HV.agg (lN zs (ps.map fun p=>(p.1,p.2.1,bT S p.2.2))).1).inn F0:=by
 simp only [aG,zl014,qc] at hq
 have h1:innL F0 zs:=innL_iff.2 (by rw [hq.1];simp)
 have h2:=F6 (ps:=ps.map fun p=>(p.1,p.2.1,bT S p.2.2)) h1 (fun q hq'=>by
  obtain ⟨p,hp,rfl⟩:=zl023.1 hq'
  exact gY h (hq.2 p hp))
 intro x hx
 exact innL_iff.1 h2 x hx
theorem Cm {nx:Nat} {a:RS} {S:Lk} {o:HOper} (h:RI nx a S) (hq:quiet a o=true) (L:Lk) (fr:Nat):(ae L fr (o.op.map (bT S))).2.1=[]/\(ae L fr (o.op.map (bT S))).1.inn F0/\(iO a o=true->(ae L fr (o.op.map (bT S))).1≠.nils):=by
 obtain ⟨d,op,g⟩:=o
 cases op<;>simp only [quiet] at hq<;>(try cases hq)
 case mv n x=>cases n with
  | zero=>exact ⟨by cases hv:bT S x<;>simp [HOp.map,ae,hv],by have:=gY h hq;cases hv:bT S x<;>simpa [HOp.map,ae,hv] using this,fun hk=>by have:=Ej h hk;cases hv:bT S x<;>simp_all [HOp.map,ae]⟩
  | succ n =>
   simp only [aG] at hq
   have h1:=Ej h hq.1
   have h2:=gY h (EW hq.2)
   refine ⟨by cases hv:bT S x<;>simp_all [HOp.map,ae],by cases hv:bT S x<;>simp_all [HOp.map,ae],fun _=>by cases hv:bT S x<;>simp_all [HOp.map,ae]⟩
 case pick c x y =>
  simp only [aG] at hq
  have h1:=gY h hq.1.2
  have h2:=gY h hq.2
  refine ⟨?_,?_,fun hk=>by simp [iO] at hk⟩
  ·simp only [HOp.map,ae]
   repeat' split
   all_goals rfl
  ·simp only [HOp.map,ae]
   split
   ·split
    ·intro z hz;cases hz
    ·simp only;split
     ·exact h1
     ·exact h2
   ·exact aV
 case bin op x y=>exact ⟨rfl,IA,fun hk=>by simp [iO] at hk⟩
 case load b sz x =>
  have h1:=gY h hq
  refine ⟨?_,?_,fun hk=>by simp [iO] at hk⟩
  ·cases b<;>cases hv:bT S x<;>simp [HOp.map,ae,hv]
  ·cases b<;>cases hv:bT S x<;>(simp only [HOp.map,ae,hv];rw [hv] at h1)
   all_goals first|exact aV|skip
   ·simp only [yF] at h1;exact h1.getD _
   ·exact (show False from h1 _ (zl019.2 rfl)).elim
   ·simp only [yF] at h1;simp only [if_true,nZ];exact h1.win _ _
   ·exact (show False from h1 _ (zl019.2 rfl)).elim
 case nilck x =>
  have h1:=gY h hq
  refine ⟨?_,?_,fun hk=>by simp [iO] at hk⟩
  ·cases hv:bT S x<;>simp [HOp.map,ae,hv]
  ·cases hv:bT S x<;>(simp only [HOp.map,ae,hv];rw [hv] at h1)
   all_goals first|exact aV|exact h1
 case faddr d x =>
  have h1:=gY h hq
  refine ⟨?_,?_,fun hk=>by simp [iO] at hk⟩
  ·cases hv:bT S x<;>simp [HOp.map,ae,hv]
  ·cases hv:bT S x<;>(simp only [HOp.map,ae,hv];rw [hv] at h1)
   all_goals first|exact aV|skip
   ·simpa using h1
   ·exact (show False from h1 _ (zl019.2 rfl)).elim
 case mlook ok kk z x k =>
  simp only [aG,qc] at hq
  have hz:z.inn F0:=fun y hy=>by rw [hq.1.1] at hy;cases hy
  have h1:=gY h hq.1.2
  refine ⟨?_,?_,fun hk=>by simp [iO] at hk⟩
  ·simp only [HOp.map,ae]
   repeat' split
   all_goals rfl
  ·simp only [HOp.map,ae]
   cases hv:bT S x<;>(simp only;rw [hv] at h1)
   all_goals first|exact aV|skip
   ·exact oq hz
   ·simp only [yX] at h1
    split
    ·exact oq (h1.getD _)
    ·exact oq hz
   ·exact (show False from h1 _ (zl019.2 rfl)).elim
 case mlen x =>
  have h1:=gY h hq
  refine ⟨?_,?_,fun hk=>by simp [iO] at hk⟩
  ·cases hv:bT S x<;>simp only [HOp.map,ae,hv]<;>split<;>rfl
  ·cases hv:bT S x<;>simp only [HOp.map,ae,hv]<;>first|exact jU|exact aV|(split<;>first|exact jU|exact aV)
 case iaddr sz x y =>
  simp only [aG] at hq
  have h1:=gY h hq.1
  refine ⟨?_,?_,fun hk=>by simp [iO] at hk⟩
  ·cases hv:bT S y<;>cases hw:bT S x<;>simp [HOp.map,ae,hv,hw]
  ·cases hv:bT S y<;>cases hw:bT S x<;>(simp only [HOp.map,ae,hv,hw];rw [hw] at h1)
   all_goals first|exact aV|skip
   ·simpa using h1
   ·exact (show False from h1 _ (zl019.2 rfl)).elim
 case bld zs ps=>exact ⟨rfl,JP h hq,fun hk=>by simp [iO] at hk⟩
 case len x =>
  refine ⟨by cases hv:bT S x<;>simp [HOp.map,ae,hv],?_,fun hk=>by simp [iO] at hk⟩
  cases hv:bT S x<;>simp only [HOp.map,ae,hv]<;>first|exact jU|exact aV
theorem yQ {nx:Nat} {a:RS} {S:Lk} {o:HOper} (h:(∃f xs,o.op.map (bT S)=.call f xs)\/∃x xs,o.op.map (bT S)=.callv x xs):(∀t ids,(quiet a o=true->t=([]:List Nat)/\ids=([]:List Nat))/\(tV a o=true->t=[]/\∀x∈ids,x<nx)/\(uz a o=true->(∀i,∀x∈t,uT nx i x)/\ids=[]))/\(quiet a o=false/\iO a o=false/\rV a o=false):=by
 obtain ⟨d,op,g⟩:=o
 cases op<;>simp_all [HOp.map,quiet,tV,uz,iO,rV]
theorem MM {us:List dJ}:∀ {S:Lk} {t:Nat},(S t).inn F0->(qF S us t).inn F0:=by
 induction us with
 | nil=>intro S t h;exact h
 | cons u r ih=>intro S t h;cases u with
  | put=>exact ih h
  | kill id len=>exact ih (S:=fun t=>(S t).kill id len) (vO id len _ h)
theorem Pn {v:HV} (h:v≠.nils) (id len:Nat):v.kill id len≠.nils:=by
 cases v<;>simp_all [HV.kill]<;>split<;>simp
theorem Qc {us:List dJ}:∀ {S:Lk} {t:Nat},S t≠.nils->qF S us t≠.nils:=by
 induction us with
 | nil=>intro S t h;exact h
 | cons u r ih=>intro S t h;cases u with
  | put=>exact ih h
  | kill id len=>exact ih (S:=fun t=>(S t).kill id len) (Pn h id len)
theorem rY {l:List Nat} {d:Option Nat} {t:Nat} (h:t∈without l d):t∈l/\d≠some t:=by
 cases d with
 | none=>exact ⟨h,by simp⟩
 | some k =>
  simp only [without,zl094,bne_iff_ne,ne_eq] at h
  exact ⟨h.1,fun e=>h.2 (by cases e;rfl)⟩
theorem LX {p:Nat->Prop} {us:List dJ}:∀ {S:Lk} {t:Nat},(S t).inn p->(qF S us t).inn p:=by
 induction us with
 | nil=>intro S t h;exact h
 | cons u r ih=>intro S t h;cases u with
  | put=>exact ih h
  | kill id len=>exact ih (S:=fun t=>(S t).kill id len) (vO id len _ h)
theorem GI {nx:Nat} {a:RS} {S:Lk} {o:HOper} (h:RI nx a S) (hq:iO a o=true) (L:Lk) (fr:Nat):(ae L fr (o.op.map (bT S))).1≠.nils:=by
 obtain ⟨d,op,g⟩:=o
 cases op<;>simp only [iO] at hq<;>(try cases hq)
 rename_i n x
 have h1:=Ej h hq
 cases n<;>cases hv:bT S x<;>simp_all [HOp.map,ae]
theorem yE {nx:Nat} {a:RS} {S:Lk} (h:RI nx a S) {x:HX} (hx:inT a.2.2 x=true):(bT S x).inn (·<nx):=by
 cases x with
 | t i=>exact h.old i (by simpa [inT] using hx)
 | c v=>cases hx
theorem GR {nx:Nat} {a:RS} {S:Lk} {o:HOper} (h:RI nx a S) (hq:rV a o=true) (L:Lk) (fr:Nat):(ae L fr (o.op.map (bT S))).1.inn (·<nx):=by
 obtain ⟨d,op,g⟩:=o
 cases op<;>simp only [rV] at hq<;>(try cases hq)
 case mv n x=>cases n with
  | zero =>
   have h1:=yE h hq
   cases hv:bT S x<;>(rw [hv] at h1;simpa [HOp.map,ae,hv] using h1)
  | succ n =>
   simp only [aG] at hq
   have h1:=yE h hq.1
   have h2:=Ej h hq.2
   cases hv:bT S x<;>first|exact absurd hv h2|(rw [hv] at h1;simpa [HOp.map,ae,hv] using h1)
 case iaddr sz x y =>
  have h1:=yE h hq
  cases hv:bT S y<;>cases hw:bT S x<;>(simp only [HOp.map,ae,hv,hw];rw [hw] at h1)
  all_goals first|exact aV|skip
  ·simpa using h1
  ·intro z hz
   exact h1 z hz
theorem qY {nx:Nat} {a:RS} {S:Lk} {o:HOper} (h:RI nx a S) (hq:tV a o=true) (L:Lk) (fr:Nat):(ae L fr (o.op.map (bT S))).2.1=[]/\∀x∈iD o S,x<nx:=by
 obtain ⟨d,op,g⟩:=o
 cases op<;>simp only [tV] at hq<;>(try cases hq)
 rename_i b sz x
 have h1:=yE h hq
 refine ⟨?_,fun z hz=>h1 z ?_⟩
 ·cases hv:bT S x<;>cases b<;>simp [HOp.map,ae,hv]
 ·simpa [iD,HOp.map,HOp.vals,aN] using hz
theorem Kt {L:Lk} {v:HV} (h:v.deep=[]):(takeC L v).2.1=[]:=by
 cases v<;>simp_all [takeC,HV.deep]
theorem JZ:∀ {l:List HV} {L:Lk},aN l=[]->(dO L l).2.1=[]:=by
 intro l
 induction l with
 | nil=>intro L _;rfl
 | cons v r ih =>
  intro L h
  simp only [aN,List.append_eq_nil_iff] at h
  simp only [dO,Kt h.1,Lk.upd,List.nil_append]
  exact ih h.2
theorem uS {nx:Nat} {a:RS} {S:Lk} {o:HOper} (h:RI nx a S) (hq:uz a o=true) (L:Lk) (fr:Nat):fP (ae L fr (o.op.map (bT S))).2.1=[fr]/\iD o S=[]:=by
 obtain ⟨d,op,g⟩:=o
 cases op<;>simp only [uz] at hq<;>(try cases hq)
 rename_i sz n xs
 have hd:aN (xs.map (bT S))=[]:=by
  rw [zl039]
  intro z hz
  rw [mem_deepL] at hz
  obtain ⟨v,hv,hz⟩:=hz
  obtain ⟨x,hx,rfl⟩:=zl023.1 hv
  have:=SI (gY h (zl014.1 hq x hx))
  rw [this] at hz;cases hz
 have hd2:aN ((xs.map (bT S)).flatMap cellsOf)=[]:=by
  rw [zl039]
  intro z hz
  have:=wF hz
  rw [hd] at this;cases this
 refine ⟨?_,by simpa [iD,HOp.map,HOp.vals] using hd⟩
 simp only [HOp.map,ae,JZ hd2,List.nil_append]
 rfl
theorem RI.rest {nx:Nat} {a:RS} {S:Lk} (h:RI nx a S) {o:HOper} (e:HV×List dJ):RI nx (without a.1 o.dst,without a.2.1 o.dst,without a.2.2 o.dst) (jY o e S):=by
 refine ⟨fun t ht=>?_,fun t ht=>?_,fun t ht=>?_⟩
 ·obtain ⟨h1,h2⟩:=rY ht
  simp only [jY,if_neg h2]
  exact MM (h.ro t h1)
 ·obtain ⟨h1,h2⟩:=rY ht
  simp only [jY,if_neg h2]
  exact Qc (h.nn t h1)
 ·obtain ⟨h1,h2⟩:=rY ht
  simp only [jY,if_neg h2]
  exact LX (h.old t h1)
theorem uV {c:Bool} {t u:Nat} {l:List Nat} (h:u∈more c t l):(c=true/\u=t)\/u∈l:=by
 unfold more at h
 split at h
 ·rename_i hc
  rcases zl008.1 h with h|h
  ·exact .inl ⟨hc,h⟩
  ·exact .inr h
 ·exact .inr h
theorem RI.step {nc:Bool} {nx:Nat} {a:RS} {S:Lk} (h:RI nx a S) {o:HOper} (e:HV×List dJ) (h1:(quiet a o || (nc&&Ov o))=true->e.1.inn F0) (h2:o.guard=none->iO a o=true->e.1≠.nils) (h3:o.guard=none->rV a o=true->e.1.inn (·<nx)):RI nx (uN nc a o) (jY o e S):=by
 have hr:=h.rest (o:=o) e
 unfold uN
 split
 ·rename_i t hg hd
  refine ⟨fun u hu=>?_,fun u hu=>?_,fun u hu=>?_⟩
  ·rcases uV hu with ⟨hc,rfl⟩|hu
   ·simp only [jY,hd,if_true];exact h1 hc
   ·exact hr.ro u hu
  ·rcases uV hu with ⟨hc,rfl⟩|hu
   ·simp only [jY,hd,if_true];exact h2 hg hc
   ·exact hr.nn u hu
  ·rcases uV hu with ⟨hc,rfl⟩|hu
   ·simp only [jY,hd,if_true];exact h3 hg hc
   ·exact hr.old u hu
 ·rename_i t hg hd
  refine ⟨fun u hu=>?_,hr.nn,hr.old⟩
  rcases uV hu with ⟨hc,rfl⟩|hu
  ·simp only [jY,hd,if_true];exact h1 hc
  ·exact hr.ro u hu
 ·exact hr
theorem RI.loud {nc:Bool} {nx:Nat} {a:RS} {S:Lk} (h:RI nx a S) {o:HOper} (hq:quiet a o=false/\iO a o=false/\rV a o=false) (e:HV×List dJ) (hn:nc=true->e.1.inn F0):RI nx (uN nc a o) (jY o e S) :=
 h.step e (fun hh=>hn (by rw [hq.1,Bool.false_or] at hh;exact (Bool.and_eq_true_iff.1 hh).1)) (fun _ h=>by rw [hq.2.1] at h;cases h) (fun _ h=>by rw [hq.2.2] at h;cases h)
theorem RI.skip {nc:Bool} {nx:Nat} {a:RS} {S:Lk} (h:RI nx a S) {o:HOper} (hg:o.guard≠none) {e:HV×List dJ} (hn:e.1.inn F0):RI nx (uN nc a o) (jY o e S) :=
 h.step e (fun _=>hn) (fun h=>absurd h hg) (fun h=>absurd h hg)
theorem RI.exec {nc:Bool} {nx:Nat} {a:RS} {S M:Lk} {fr:Nat} (h:RI nx a S) {o:HOper}:RI nx (uN nc a o) (jY o ((ae M fr (o.op.map (bT S))).1,(ae M fr (o.op.map (bT S))).2.1) S) :=
 h.step _ (fun hq=>by
  rcases Bool.or_eq_true_iff.1 hq with hq|hq
  ·exact (Cm h hq M fr).2.1
  ·obtain ⟨d,op,g⟩:=o
   replace hq:=(Bool.and_eq_true_iff.1 hq).2
   cases op<;>simp only [Ov] at hq<;>(first|exact aV|cases hq)) (fun _ hq=>GI h hq M fr) (fun _ hq=>GR h hq M fr)
def Told (nx:Nat) (a:RS) (o:HOper) (i:Nat) (t ids:List Nat):Prop :=
 (quiet a o=true->t=[]/\ids=[])/\(tV a o=true->t=[]/\∀x∈ids,x<nx)/\(uz a o=true->(∀x∈t,uT nx i x)/\ids=[])
def I8 (nx:Nat) (a:RS) (o:HOper) (i:Nat) (W R:List Nat):Prop:=∃t ids,Told nx a o i t ids/\(∀c∈W,c / 2∈t)/\∀c∈R,c / 2∈ids
theorem Told.e {nx:Nat} {a:RS} {o o2:HOper} {i:Nat} {us:List dJ} {S:Lk} (h:Told nx a o i (fP us) (iD o2 S)):I8 nx a o i (vZ o2 S us) (qg o2 S):=⟨_,_,h,fun _ hc=>FK hc,fun _ hc=>qR hc⟩
theorem Nr {nc:Bool} {P:Program} {D:FuncId->List HV->HV->Prop} {ops:List HOper} {masks:List Nat} {nx:Nat} {K:St->Prop} {a0:RS} (hlit:∀ (i:Nat) (o:HOper),ops[i]?=some o->lU o=true) (hDn:nc=true->∀f args r,D f args r->∀fr,(unpack fr r).1.inn F0) (hns:yD nc masks ops a0=true):∀ (rest:List HOper) (i:Nat) (log:pU) (s:St),ops.drop i=rest->s.nx=nx->(∀q∈log,q.1<i)->(∀q∈log,∀o,ops[q.1]?=some o->I8 nx (l9 nc ops a0 q.1) o q.1 q.2.1 q.2.2)->RI nx (l9 nc ops a0 i) s.S->Inv nx (fun k=>k<i) s.S s.M->(∀q∈log,∀x∈q.2.2,oJ nx (fun k=>k<q.1) (x / 2))->hops (CS P D) ops rest i K s ->
  dr (HT2 P) (DS.of D) ops masks nx (fun S M=>∃s':St,s'.S=S/\s'.M=M/\s'.nx=nx/\K s') (List.range' i rest.length) log s.S s.M:=by
 intro rest
 induction rest with
 | nil=>intro i log s _ hnx _ _ _ _ _ h;exact ⟨s,rfl,rfl,hnx,h⟩
 | cons o rest ih =>
  intro i log s hdrop hnx hlog hlq hRI hI hlb h
  have hoi:ops[i]?=some o:=by
   have:=congrArg (fun l:List HOper=>l[0]?) hdrop
   simpa using this
  have hdrop':ops.drop (i+1)=rest:=by
   have:=congrArg (List.drop 1) hdrop
   simpa [nR,jI] using this
  simp only [List.length_cons,C9]
  have hil:=(zl030.1 hoi).1
  have ck:∀e:HV×List dJ,Told nx (l9 nc ops a0 i) o i (fP e.2) (iD o s.S)->∀q∈log,chk (fun _=>false) masks ops i o e s.S q:=by
   intro e he q hq b1 _ o' ho' hs
   have hlt:=hlog q hq
   obtain ⟨t,ids,hl,hlt1,hlt2⟩:=hlq q hq o' ho'
   simp only [yD,zl014,zl034,uy] at hns
   have h:=hns i hil q.1 hlt
   rw [ho',hoi] at h
   simp only [uy,uu,aG] at h
   have w2:=fun c (hc:c∈vZ o s.S e.2)=>FK hc
   have r2:=fun c (hc:c∈qg o s.S)=>qR hc
   rw [Am] at hs
   rcases h with h|(((h|h)|h)|h)|h
   ·rw [b1] at h;cases h
   ·rw [h] at hs;cases hs
   ·obtain ⟨p1,p2⟩:=hl.1 h
    rw [p1] at hlt1
    rw [p2] at hlt2
    exact ⟨fun x _ hx=>by have:=hlt2 x hx;simp at this,fun x hx=>by have:=hlt1 x hx;simp at this⟩
   ·obtain ⟨p1,p2⟩:=he.1 h
    rw [p1] at w2
    rw [p2] at r2
    exact ⟨fun x hx=>by have:=w2 x hx;simp at this,fun x _ hx=>by have:=r2 x hx;simp at this⟩
   ·obtain ⟨p3,p4⟩:=he.2.2 h
    rw [p4] at r2
    refine ⟨fun x hx hx'=>?_,fun x _ hx'=>by have:=r2 x hx';simp at this⟩
    have h3:=p3 _ (w2 x hx)
    have h4:=hlb q hq x hx'
    rcases h4 with h4|⟨k,h4,h5⟩
    ·unfold uT at h3;omega
    ·have:k+1<=i:=by omega
     have:=Nat.mul_le_mul_left stride this
     unfold uT at h3 h5
     omega
   ·obtain ⟨p1,p2⟩:=hl.2.2 h.1
    obtain ⟨p3,p4⟩:=he.2.1 h.2
    rw [p3] at w2
    refine ⟨fun x hx=>by have:=w2 x hx;simp at this,fun x hx hx'=>?_⟩
    have h5:=p1 _ (hlt1 x hx)
    have h6:=p4 _ (r2 x hx')
    unfold uT at *
    omega
  have hacc:l9 nc ops a0 (i+1)=uN nc (l9 nc ops a0 i) o:=by
   unfold l9
   rw [I5 hil,List.foldl_append]
   have:ops[i]=o:=by rw [dS hil] at hoi;exact Option.some.inj hoi
   rw [this];rfl
  have hent:∀us:List dJ,Told nx (l9 nc ops a0 i) o i (fP us) (iD o s.S)->∀q∈(i,vZ o s.S us,qg o s.S)::log,∀o',ops[q.1]?=some o'->I8 nx (l9 nc ops a0 q.1) o' q.1 q.2.1 q.2.2:=by
   intro us hus q hq o' ho'
   rcases zl008.1 hq with rfl|hq
   ·rw [hoi] at ho'
    cases ho'
    exact hus.e
   ·exact hlq q hq o' ho'
  have tskip:Told nx (l9 nc ops a0 i) o i (fP []) (iD o s.S):=⟨fun h=>⟨rfl,Cb hRI h⟩,fun h=>⟨rfl,(qY hRI h s.M 0).2⟩,fun h=>⟨by simp [fP],(uS hRI h s.M 0).2⟩⟩
  have stepS:∀ (us:List dJ) (v:HV),((s.upd us).put o.dst v).S=jY o (v,us) s.S:=fun us v=>by rw [St.put_S,St.upd_S];rfl
  have stepM:∀ (us:List dJ) (v:HV),((s.upd us).put o.dst v).M=sV (v,us) s.M:=fun us v=>by rw [St.put_M,St.upd_M];rfl
  have hids:∀x∈iD o s.S,oJ nx (fun k=>k<i) x:=fun x hx=>innL_iff.1 (vM hI (hlit i o hoi)) x hx
  have inv:∀e,dU (HT2 P) (DS.of D) ops (nx+stride*i) o s.S s.M->fZ (DS.of D) ops (nx+stride*i) o s.S s.M e->Inv nx (fun k=>k<i+1) (jY o e s.S) (sV e s.M):=fun e hs hre=>by
   obtain ⟨f1,f2,_,_⟩:=nT hI (hlit i o hoi) hs hre
   have h1:=hI.step (o:=o) f1 f2
   have h2:(fun k=>k<i\/k=i)=(fun k=>k<i+1):=by funext k;exact propext ⟨fun h=>by omega,fun h=>by omega⟩
   rw [h2] at h1
   exact h1
  have next:∀ (us:List dJ) (v:HV) ent,ent.1=i->ent.2.2=qg o s.S->(∀q∈ent::log,∀o',ops[q.1]?=some o'->I8 nx (l9 nc ops a0 q.1) o' q.1 q.2.1 q.2.2)->RI nx (l9 nc ops a0 (i+1)) ((s.upd us).put o.dst v).S->Inv nx (fun k=>k<i+1) (jY o (v,us) s.S) (sV (v,us) s.M)->hops (CS P D) ops rest (i+1) K ((s.upd us).put o.dst v)->dr (HT2 P) (DS.of D) ops masks nx (fun S M=>∃s':St,s'.S=S/\s'.M=M/\s'.nx=nx/\K s') (List.range' (i+1) rest.length) (ent::log) (jY o (v,us) s.S) (sV (v,us) s.M):=by
   intro us v ent he he2 hent hri hI' h'
   have:=ih (i+1) (ent::log) ((s.upd us).put o.dst v) hdrop' (by rw [St.put_nx,St.upd_nx];exact hnx) (fun q hq=>by
    rcases zl008.1 hq with rfl|hq
    ·omega
    ·have:=hlog q hq;omega) hent hri (by rw [stepS,stepM];exact hI') (fun q hq x hx=>by
    rcases zl008.1 hq with rfl|hq
    ·rw [he2] at hx;rw [he];exact hids _ (qR hx)
    ·exact hlb q hq x hx) h'
   rw [stepS,stepM] at this
   exact this
  have hstr:s.nx+stride*(i+1)=nx+stride*i+stride:=by rw [hnx];unfold stride;omega
  have run:gd ops o s.S=some true->hop (CS P D) s i o (hops (CS P D) ops rest (i+1) K)->∃o',ops[i]?=some o'/\dU (HT2 P) (DS.of D) ops (nx+stride*i) o' s.S s.M/\(∃e,fZ (DS.of D) ops (nx+stride*i) o' s.S s.M e)/\∀e,fZ (DS.of D) ops (nx+stride*i) o' s.S s.M e->(∀q∈log,chk (fun _=>false) masks ops i o' e s.S q)/\dr (HT2 P) (DS.of D) ops masks nx (fun S M=>∃s':St,s'.S=S/\s'.M=M/\s'.nx=nx/\K s') (List.range' (i+1) rest.length) ((i,vZ o' s.S e.2,qg o' s.S)::log) (jY o' e s.S) (sV e s.M):=by
   intro hg hh
   refine ⟨o,hoi,?_⟩
   unfold dU fZ
   rw [hg]
   simp only
   have hM:(fun i=>au i s.st)=s.M:=rfl
   replace hh:=hh.resolve_right (fun h=>h)
   unfold hop0 at hh
   rw [kV,hM,hstr,hnx] at hh
   have callc:∀ (f:FuncId) (args xs:List HV),(∀t ids,Told nx (l9 nc ops a0 i) o i t ids)/\(quiet (l9 nc ops a0 i) o=false/\iO (l9 nc ops a0 i) o=false/\rV (l9 nc ops a0 i) o=false)->((HT P f args (D f args)/\∀r,D f args r->r.deep=[]->(aI xs || r.noRd)=true/\(unpack (nx+stride*i) r).2.2<=nx+stride*i+stride)->dU (HT2 P) (DS.of D) ops (nx+stride*i) o s.S s.M)->(∀e:HV×List dJ,(∃r,D f args r/\r.deep=[]/\e=((unpack (nx+stride*i) r).1,(unpack (nx+stride*i) r).2.1))->fZ (DS.of D) ops (nx+stride*i) o s.S s.M e)->(CS P D f args fun r=>(aI xs || r.noRd)=true/\(unpack (nx+stride*i) r).2.2<=nx+stride*i+stride/\hops (CS P D) ops rest (i+1) K ((s.upd (unpack (nx+stride*i) r).2.1).put o.dst (unpack (nx+stride*i) r).1)) ->
     (HT P f args (D f args)/\∀r,D f args r->r.deep=[]->(aI xs || r.noRd)=true/\(unpack (nx+stride*i) r).2.2<=nx+stride*i+stride)/\(∃e:HV×List dJ,∃r,D f args r/\r.deep=[]/\e=((unpack (nx+stride*i) r).1,(unpack (nx+stride*i) r).2.1)) /\
     ∀e:HV×List dJ,(∃r,D f args r/\r.deep=[]/\e=((unpack (nx+stride*i) r).1,(unpack (nx+stride*i) r).2.1))->(∀q∈log,chk (fun _=>false) masks ops i o e s.S q)/\dr (HT2 P) (DS.of D) ops masks nx (fun S M=>∃s':St,s'.S=S/\s'.M=M/\s'.nx=nx/\K s') (List.range' (i+1) rest.length) ((i,vZ o s.S e.2,qg o s.S)::log) (jY o e s.S) (sV e s.M):=by
    rintro f args xs hnq hf1 hf2 ⟨c1,⟨r0,c2,c3⟩,c4⟩
    have hsd:HT P f args (D f args)/\∀r,D f args r->r.deep=[]->(aI xs || r.noRd)=true/\(unpack (nx+stride*i) r).2.2<=nx+stride*i+stride:=⟨c1,fun r a b=>⟨(c4 r a b).1,(c4 r a b).2.1⟩⟩
    refine ⟨hsd,⟨_,r0,c2,c3,rfl⟩,?_⟩
    rintro e ⟨r,d1,d2,rfl⟩
    exact ⟨ck _ (hnq.1 _ _),next _ _ _ rfl rfl (hent _ (hnq.1 _ _)) (by rw [hacc,stepS];exact RI.loud hRI hnq.2 _ (fun hnc=>hDn hnc _ _ _ d1 _)) (inv _ (hf1 hsd) (hf2 _ ⟨r,d1,d2,rfl⟩)) (c4 r d1 d2).2.2⟩
   split at hh
   ·rename_i f xs heq
    rw [heq]
    have hq:=yQ (nx:=nx) (a:=l9 nc ops a0 i) (.inl ⟨f,xs,heq⟩)
    exact callc f _ xs ⟨fun t ids=>⟨(hq.1 t ids).1,(hq.1 t ids).2.1,fun h=>⟨((hq.1 t ids).2.2 h).1 i,((hq.1 t ids).2.2 h).2⟩⟩,hq.2⟩ (fun h=>by unfold dU;rw [hg];simp only;rw [heq];exact h) (fun e h=>by unfold fZ;rw [hg];simp only;rw [heq];exact h) hh
   ·rename_i f cap xs heq
    rw [heq]
    have hq:=yQ (nx:=nx) (a:=l9 nc ops a0 i) (.inr ⟨_,xs,heq⟩)
    exact callc f _ (xs++cap) ⟨fun t ids=>⟨(hq.1 t ids).1,(hq.1 t ids).2.1,fun h=>⟨((hq.1 t ids).2.2 h).1 i,((hq.1 t ids).2.2 h).2⟩⟩,hq.2⟩ (fun h=>by unfold dU;rw [hg];simp only;rw [heq];exact h) (fun e h=>by unfold fZ;rw [hg];simp only;rw [heq];exact h) hh
   ·rename_i op h1 h2
    have e1:ku (HT2 P) (DS.of D) s.M (nx+stride*i) (o.op.map (bT s.S))=(ae s.M (nx+stride*i) (o.op.map (bT s.S))).2.2:=by
     unfold ku;split
     ·rename_i f xs heq;exact absurd heq (h1 f xs)
     ·rename_i f cap xs heq;exact absurd heq (h2 f cap xs)
     ·rfl
    have e2:∀e,lM (DS.of D) s.M (nx+stride*i) e (o.op.map (bT s.S))=(e=((ae s.M (nx+stride*i) (o.op.map (bT s.S))).1,(ae s.M (nx+stride*i) (o.op.map (bT s.S))).2.1)):=fun e=>by
     unfold lM;split
     ·rename_i f xs heq;exact absurd heq (h1 f xs)
     ·rename_i f cap xs heq;exact absurd heq (h2 f cap xs)
     ·rfl
    rw [e1]
    simp only [e2]
    refine ⟨hh.1,⟨_,rfl⟩,?_⟩
    rintro e rfl
    have hus:Told nx (l9 nc ops a0 i) o i (fP (ae s.M (nx+stride*i) (o.op.map (bT s.S))).2.1) (iD o s.S) :=
     ⟨fun h=>⟨by rw [(Cm hRI h _ _).1];rfl,Cb hRI h⟩,fun h=>⟨by rw [(qY hRI h _ _).1];rfl,(qY hRI h s.M 0).2⟩,fun h=>⟨by rw [(uS hRI h _ _).1];intro x hx;simp at hx;subst hx;unfold uT stride;omega,(uS hRI h s.M 0).2⟩⟩
    exact ⟨ck _ hus,next _ _ _ rfl rfl (hent _ hus) (by rw [hacc,stepS];exact RI.exec hRI) (inv _ (by unfold dU;rw [hg];simp only;rw [e1];exact hh.1) (by unfold fZ;rw [hg];simp only;rw [e2])) hh.2⟩
  simp only [hops] at h
  cases hg:o.guard with
  | none =>
   rw [hg] at h
   exact run (by unfold gd;rw [hg]) h
  | some jw =>
   obtain ⟨j,want⟩:=jw
   rw [hg] at h
   simp only at h
   cases hd:(ops[j]?).bind (·.dst) with
   | none=>rw [hd] at h;exact h.elim
   | some d =>
    rw [hd] at h
    simp only [iq] at h
    generalize hv:au d s.sl=v at h
    cases v with
    | bool b =>
     simp only at h
     have hv':s.S d=.bool b:=hv
     have hgd:gd ops o s.S=some (b==want):=by unfold gd;rw [hg];simp only [hd,iq,hv']
     by_cases hbw:b=want
     ·exact run (by rw [hgd];simp [hbw]) (h.1 hbw)
     ·refine ⟨o,hoi,?_⟩
      have:(b==want)=false:=by simpa using hbw
      unfold dU fZ
      rw [hgd,this]
      simp only
      refine ⟨trivial,⟨_,rfl⟩,?_⟩
      rintro e rfl
      exact ⟨ck _ tskip,next [] (.tup []) _ rfl rfl (hent [] tskip) (by rw [hacc,stepS];exact RI.skip hRI (by rw [hg];simp) (by intro x hx;cases hx)) (inv _ (by unfold dU;rw [hgd,this];trivial) (by unfold fZ;rw [hgd,this])) (h.2 hbw)⟩
    | tup cs =>
     cases cs with
     | cons _ _=>exact h.elim
     | nil =>
      simp only at h
      have hv':s.S d=.tup []:=hv
      have hgd:gd ops o s.S=some false:=by unfold gd;rw [hg];simp only [hd,iq,hv']
      refine ⟨o,hoi,?_⟩
      unfold dU fZ
      rw [hgd]
      simp only
      refine ⟨trivial,⟨_,rfl⟩,?_⟩
      rintro e rfl
      exact ⟨ck _ tskip,next [] (.tup []) _ rfl rfl (hent [] tskip) (by rw [hacc,stepS];exact RI.skip hRI (by rw [hg];simp) (by intro x hx;cases hx)) (inv _ (by unfold dU;rw [hgd];trivial) (by unfold fZ;rw [hgd])) h⟩
    | _=>exact h.elim
theorem Jy (nc:Bool) {P:Program} {k:List HI} {Q:HE->St->Prop} {s:St} {ops:List HOper} {masks:List Nat} (ro0 old0:List Nat) (h1:kU masks ops=true) (h2:yD nc masks ops (ro0,ro0++old0,old0)=true) (D:FuncId->List HV->HV->Prop) (h0:∀t∈ro0,(au t s.sl).deep=[]/\au t s.sl≠.nils) (h00:∀t∈old0,(∀x∈(au t s.sl).deep,x<s.nx)/\au t s.sl≠.nils) (h:hx P (.o (CS P D) ops ops 0::k) Q s) (hDn:nc=true->∀f args r,D f args r->∀fr,(unpack fr r).1.inn F0):hx P (.c (.region (some masks) ops)::k) Q s:=by
 refine PS (Weak.refl s) ?_
 refine ⟨h1,fun hI=>.inl ⟨DS.of D,?_⟩⟩
 have hlit:∀i o,ops[i]?=some o->lU o=true:=fun i o ho=>(jm h1 ho).2.1
 have hI0:Inv s.nx (fun k=>k<0) s.S s.M:=by
  have:(fun k:Nat=>k<0)=fun _=>False:=by funext k;exact propext ⟨fun h=>by omega,fun h=>h.elim⟩
  rw [this];exact hI
 have hRI:RI s.nx (l9 nc ops (ro0,ro0++old0,old0) 0) s.S:=by
  refine ⟨fun t ht x hx=>?_,fun t ht=>?_,fun t ht=>(h00 t ht).1⟩
  ·have h3:=(h0 t ht).1
   have h4:s.S t=au t s.sl:=rfl
   rw [h4,h3] at hx
   cases hx
  ·rcases zl001.1 ht with ht|ht
   ·exact (h0 t ht).2
   ·exact (h00 t ht).2
 unfold hx at h
 have:=Nr hlit hDn h2 ops 0 [] s rfl rfl (by simp) (by simp) hRI hI0 (by simp) h
 rw [A8]
 exact this
theorem FV {P:Program} {k:List HI} {Q:HE->St->Prop} {s:St} {ops:List HOper} {masks:List Nat} (ro0 old0:List Nat) (h1:kU masks ops=true) (h2:yD true masks ops (ro0,ro0++old0,old0)=true) (D:FuncId->List HV->HV->Prop) (h0:∀t∈ro0,(au t s.sl).deep=[]/\au t s.sl≠.nils) (h00:∀t∈old0,(∀x∈(au t s.sl).deep,x<s.nx)/\au t s.sl≠.nils) (h:hx P (.o (CS P D) ops ops 0::k) Q s) (hDn:∀f args r,D f args r->∀fr,(unpack fr r).1.inn F0:=by intro _ _ _ h;exact h.elim):hx P (.c (.region (some masks) ops)::k) Q s :=
 Jy true ro0 old0 h1 h2 D h0 h00 h (fun _=>hDn)
end Go.HL
