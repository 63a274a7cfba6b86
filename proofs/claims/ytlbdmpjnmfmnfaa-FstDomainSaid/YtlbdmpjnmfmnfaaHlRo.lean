import Derived.Test.YtlbdmpjnmfmnfaaHl5
set_option linter.unusedSimpArgs false
set_option linter.unusedVariables false
set_option linter.unnecessarySimpa false
namespace Go.HL
open Go.RowKit
def inT (l:List Nat):HX->Bool
 | .t i=>l.contains i
 | .c _=>false
def rV (l:List Nat):HX->Bool
 | .t i=>l.contains i
 | .c v=>v.deep.isEmpty
abbrev RS:=List Nat×List Nat×List Nat
def quiet (a:RS) (o:HOper):Bool:=match o.op with
 | .mv 0 x=>rV a.1 x
 | .mv (_+1) x=>inT a.2.1 x&&inT a.1 x
 | .iaddr _ x y=>rV a.1 x&&rV a.1 y
 | .load _ _ x=>rV a.1 x
 | .nilck x=>rV a.1 x
 | .faddr _ x=>rV a.1 x
 | .mlook _ _ z x k=>z.deep.isEmpty&&rV a.1 x&&rV a.1 k
 | .mlen x=>rV a.1 x
 | .len x=>rV a.1 x
 | .pick c x y=>rV a.1 c&&rV a.1 x&&rV a.1 y
 | .bin _ x y=>rV a.1 x&&rV a.1 y
 | .bld zs ps=>(aQ zs).isEmpty&&ps.all fun q=>rV a.1 q.2.2
 | _=>false
def jL (a:RS) (o:HOper):Bool:=match o.op with
 | .mv _ x=>inT a.2.1 x
 | _=>false
def without (l:List Nat):Option Nat->List Nat
 | some t=>l.filter (· != t)
 | none=>l
def yQ (a:RS) (o:HOper):Bool:=match o.op with
 | .mv 0 x=>inT a.2.2 x
 | .mv (_+1) x=>inT a.2.2 x&&inT a.2.1 x
 | .iaddr _ x _=>inT a.2.2 x
 | _=>false
def Aj (a:RS) (o:HOper):Bool:=match o.op with
 | .load _ _ x=>inT a.2.2 x
 | _=>false
def BN (a:RS) (o:HOper):Bool:=match o.op with
 | .bsl _ _ xs=>xs.all (rV a.1)
 | _=>false
def aad (o:HOper):Bool:=match o.op with
 | .call ..=>true
 | .callv ..=>true
 | _=>false
def more (c:Bool) (t:Nat) (l:List Nat):List Nat:=if c then t::l else l
def Bg (nc:Bool) (a:RS) (o:HOper):RS:=match o.guard,o.dst with
 | none,some t=>(more (quiet a o || (nc&&aad o)) t (without a.1 o.dst),more (jL a o) t (without a.2.1 o.dst),more (yQ a o) t (without a.2.2 o.dst))
 | some _,some t=>(more (quiet a o || (nc&&aad o)) t (without a.1 o.dst),without a.2.1 o.dst,without a.2.2 o.dst)
 | _,_=>(without a.1 o.dst,without a.2.1 o.dst,without a.2.2 o.dst)
def rZ (nc:Bool) (ops:List HOper) (a0:RS) (i:Nat):RS:=(ops.take i).foldl (Bg nc) a0
def Cj (nc:Bool) (masks:List Nat) (all:List HOper) (a0:RS):Bool :=
 (List.range all.length).all fun i=>(List.range i).all fun k=>rq masks k i || (match all[k]?,all[i]? with|some x,some y=>!U6 x y || quiet (rZ nc all a0 k) x || quiet (rZ nc all a0 i) y || BN (rZ nc all a0 i) y || (BN (rZ nc all a0 k) x&&Aj (rZ nc all a0 i) y)|_,_=>true)
def F0:Nat->Prop:=fun _=>False
structure RI (nx:Nat) (a:RS) (S:Lk):Prop where
 ro:∀t∈a.1,(S t).inn F0
 nn:∀t∈a.2.1,S t≠.nils
 old:∀t∈a.2.2,(S t).inn (·<nx)
theorem ac8 {v:HV} (h:v.inn F0):v.deep=[]:=zl036.2 fun x hx=>h x hx
theorem jB {nx:Nat} {a:RS} {S:Lk} (h:RI nx a S) {x:HX} (hx:rV a.1 x=true):(bU S x).inn F0:=by
 cases x with
 | t i=>exact h.ro i (by simpa [rV] using hx)
 | c v =>
  have hd:v.deep=[]:=by simpa [rV,EZ] using hx
  intro y hy
  simp only [bU,hd] at hy
  cases hy
theorem NS {l:List Nat} {x:HX} (h:inT l x=true):rV l x=true:=by cases x<;>simp_all [inT,rV]
theorem KW {nx:Nat} {a:RS} {S:Lk} (h:RI nx a S) {x:HX} (hx:inT a.2.1 x=true):bU S x≠.nils:=by
 cases x with
 | t i=>exact h.nn i (by simpa [inT] using hx)
 | c v=>cases hx
theorem IU {nx:Nat} {a:RS} {S:Lk} {o:HOper} (h:RI nx a S) (hq:quiet a o=true):aQ (o.op.map (bU S)).vals=[]:=by
 obtain ⟨d,op,g⟩:=o
 have one:∀ {x:HX},rV a.1 x=true->(bU S x).deep=[]:=fun hx=>ac8 (jB h hx)
 cases op<;>simp only [quiet] at hq<;>(try cases hq)
 case mv n x=>cases n with
  | zero=>simp [HOp.map,HOp.vals,aQ,one hq]
  | succ n=>simp only [aZ] at hq;simp [HOp.map,HOp.vals,aQ,one (NS hq.2)]
 case pick=>simp only [aZ] at hq;simp [HOp.map,HOp.vals,aQ,one hq.1.1,one hq.1.2,one hq.2]
 case bin=>simp only [aZ] at hq;simp [HOp.map,HOp.vals,aQ,one hq.1,one hq.2]
 case load b sz x=>simp [HOp.map,HOp.vals,aQ,one hq]
 case nilck x=>simp [HOp.map,HOp.vals,aQ,one hq]
 case faddr d x=>simp [HOp.map,HOp.vals,aQ,one hq]
 case mlook ok kk z x k=>simp only [aZ] at hq;simp [HOp.map,HOp.vals,aQ,one hq.1.2,one hq.2]
 case mlen x=>simp [HOp.map,HOp.vals,aQ,one hq]
 case iaddr=>simp only [aZ] at hq;simp [HOp.map,HOp.vals,aQ,one hq.1,one hq.2]
 case len=>simp [HOp.map,HOp.vals,aQ,one hq]
 case bld zs ps =>
  simp only [aZ,zl016] at hq
  refine zl036.2 fun x hx=>?_
  obtain ⟨v,hv,hxv⟩:=mem_deepL.1 hx
  simp only [HOp.map,HOp.vals,kZ,zl020,Function.comp] at hv
  obtain ⟨q,hq1,rfl⟩:=hv
  rw [one (hq.2 q hq1)] at hxv
  cases hxv
theorem U4 {nx:Nat} {a:RS} {S:Lk} (h:RI nx a S) {zs:List HV} {ps:List (Nat×Nat×HX)} (hq:((aQ zs).isEmpty&&ps.all fun q=>rV a.1 q.2.2)=true):(HV.agg (qI zs (ps.map fun p=>(p.1,p.2.1,bU S p.2.2))).1).inn F0:=by
 simp only [aZ,zl016,EZ] at hq
 have h1:innL F0 zs:=innL_iff.2 (by rw [hq.1];simp)
 have h2:=MO (ps:=ps.map fun p=>(p.1,p.2.1,bU S p.2.2)) h1 (fun q hq'=>by
  obtain ⟨p,hp,rfl⟩:=zl020.1 hq'
  exact jB h (hq.2 p hp))
 intro x hx
 exact innL_iff.1 h2 x hx
theorem I5 {nx:Nat} {a:RS} {S:Lk} {o:HOper} (h:RI nx a S) (hq:quiet a o=true) (L:Lk) (fr:Nat):(ah L fr (o.op.map (bU S))).2.1=[]/\(ah L fr (o.op.map (bU S))).1.inn F0/\(jL a o=true->(ah L fr (o.op.map (bU S))).1≠.nils):=by
 obtain ⟨d,op,g⟩:=o
 cases op<;>simp only [quiet] at hq<;>(try cases hq)
 case mv n x=>cases n with
  | zero=>exact ⟨by cases hv:bU S x<;>simp [HOp.map,ah,hv],by have:=jB h hq;cases hv:bU S x<;>simpa [HOp.map,ah,hv] using this,fun hk=>by have:=KW h hk;cases hv:bU S x<;>simp_all [HOp.map,ah]⟩
  | succ n =>
   simp only [aZ] at hq
   have h1:=KW h hq.1
   have h2:=jB h (NS hq.2)
   refine ⟨by cases hv:bU S x<;>simp_all [HOp.map,ah],by cases hv:bU S x<;>simp_all [HOp.map,ah],fun _=>by cases hv:bU S x<;>simp_all [HOp.map,ah]⟩
 case pick c x y =>
  simp only [aZ] at hq
  have h1:=jB h hq.1.2
  have h2:=jB h hq.2
  refine ⟨?_,?_,fun hk=>by simp [jL] at hk⟩
  ·simp only [HOp.map,ah]
   repeat' split
   all_goals rfl
  ·simp only [HOp.map,ah]
   split
   ·split
    ·intro z hz;cases hz
    ·simp only;split
     ·exact h1
     ·exact h2
   ·exact bQ
 case bin op x y=>exact ⟨rfl,Sl,fun hk=>by simp [jL] at hk⟩
 case load b sz x =>
  have h1:=jB h hq
  refine ⟨?_,?_,fun hk=>by simp [jL] at hk⟩
  ·cases b<;>cases hv:bU S x<;>simp [HOp.map,ah,hv]
  ·cases b<;>cases hv:bU S x<;>(simp only [HOp.map,ah,hv];rw [hv] at h1)
   all_goals first|exact bQ|skip
   ·simp only [FM] at h1;exact h1.getD _
   ·exact (show False from h1 _ (zl009.2 rfl)).elim
   ·simp only [FM] at h1;simp only [if_true,uY];exact h1.win _ _
   ·exact (show False from h1 _ (zl009.2 rfl)).elim
 case nilck x =>
  have h1:=jB h hq
  refine ⟨?_,?_,fun hk=>by simp [jL] at hk⟩
  ·cases hv:bU S x<;>simp [HOp.map,ah,hv]
  ·cases hv:bU S x<;>(simp only [HOp.map,ah,hv];rw [hv] at h1)
   all_goals first|exact bQ|exact h1
 case faddr d x =>
  have h1:=jB h hq
  refine ⟨?_,?_,fun hk=>by simp [jL] at hk⟩
  ·cases hv:bU S x<;>simp [HOp.map,ah,hv]
  ·cases hv:bU S x<;>(simp only [HOp.map,ah,hv];rw [hv] at h1)
   all_goals first|exact bQ|skip
   ·simpa using h1
   ·exact (show False from h1 _ (zl009.2 rfl)).elim
 case mlook ok kk z x k =>
  simp only [aZ,EZ] at hq
  have hz:z.inn F0:=fun y hy=>by rw [hq.1.1] at hy;cases hy
  have h1:=jB h hq.1.2
  refine ⟨?_,?_,fun hk=>by simp [jL] at hk⟩
  ·simp only [HOp.map,ah]
   repeat' split
   all_goals rfl
  ·simp only [HOp.map,ah]
   cases hv:bU S x<;>(simp only;rw [hv] at h1)
   all_goals first|exact bQ|skip
   ·exact uO hz
   ·simp only [Gz] at h1
    split
    ·exact uO (h1.getD _)
    ·exact uO hz
   ·exact (show False from h1 _ (zl009.2 rfl)).elim
 case mlen x =>
  have h1:=jB h hq
  refine ⟨?_,?_,fun hk=>by simp [jL] at hk⟩
  ·cases hv:bU S x<;>simp only [HOp.map,ah,hv]<;>split<;>rfl
  ·cases hv:bU S x<;>simp only [HOp.map,ah,hv]<;>first|exact kJ|exact bQ|(split<;>first|exact kJ|exact bQ)
 case iaddr sz x y =>
  simp only [aZ] at hq
  have h1:=jB h hq.1
  refine ⟨?_,?_,fun hk=>by simp [jL] at hk⟩
  ·cases hv:bU S y<;>cases hw:bU S x<;>simp [HOp.map,ah,hv,hw]
  ·cases hv:bU S y<;>cases hw:bU S x<;>(simp only [HOp.map,ah,hv,hw];rw [hw] at h1)
   all_goals first|exact bQ|skip
   ·simpa using h1
   ·exact (show False from h1 _ (zl009.2 rfl)).elim
 case bld zs ps=>exact ⟨rfl,U4 h hq,fun hk=>by simp [jL] at hk⟩
 case len x =>
  refine ⟨by cases hv:bU S x<;>simp [HOp.map,ah,hv],?_,fun hk=>by simp [jL] at hk⟩
  cases hv:bU S x<;>simp only [HOp.map,ah,hv]<;>first|exact kJ|exact bQ
theorem Ht {nx:Nat} {a:RS} {S:Lk} {o:HOper} (h:(∃f xs,o.op.map (bU S)=.call f xs)\/∃x xs,o.op.map (bU S)=.callv x xs):(∀t ids,(quiet a o=true->t=([]:List Nat)/\ids=([]:List Nat))/\(Aj a o=true->t=[]/\∀x∈ids,x<nx)/\(BN a o=true->(∀i,∀x∈t,BQ nx i x)/\ids=[]))/\(quiet a o=false/\jL a o=false/\yQ a o=false):=by
 obtain ⟨d,op,g⟩:=o
 cases op<;>simp_all [HOp.map,quiet,Aj,BN,jL,yQ]
theorem Xb {us:List Upd}:∀ {S:Lk} {t:Nat},(S t).inn F0->(yF S us t).inn F0:=by
 induction us with
 | nil=>intro S t h;exact h
 | cons u r ih=>intro S t h;cases u with
  | put=>exact ih h
  | kill id len=>exact ih (S:=fun t=>(S t).kill id len) (Cc id len _ h)
theorem Yz {v:HV} (h:v≠.nils) (id len:Nat):v.kill id len≠.nils:=by
 cases v<;>simp_all [HV.kill]<;>split<;>simp
theorem abG {us:List Upd}:∀ {S:Lk} {t:Nat},S t≠.nils->yF S us t≠.nils:=by
 induction us with
 | nil=>intro S t h;exact h
 | cons u r ih=>intro S t h;cases u with
  | put=>exact ih h
  | kill id len=>exact ih (S:=fun t=>(S t).kill id len) (Yz h id len)
theorem yR {l:List Nat} {d:Option Nat} {t:Nat} (h:t∈without l d):t∈l/\d≠some t:=by
 cases d with
 | none=>exact ⟨h,by simp⟩
 | some k =>
  simp only [without,zl058,bne_iff_ne,ne_eq] at h
  exact ⟨h.1,fun e=>h.2 (by cases e;rfl)⟩
theorem Xc {p:Nat->Prop} {us:List Upd}:∀ {S:Lk} {t:Nat},(S t).inn p->(yF S us t).inn p:=by
 induction us with
 | nil=>intro S t h;exact h
 | cons u r ih=>intro S t h;cases u with
  | put=>exact ih h
  | kill id len=>exact ih (S:=fun t=>(S t).kill id len) (Cc id len _ h)
theorem OU {nx:Nat} {a:RS} {S:Lk} {o:HOper} (h:RI nx a S) (hq:jL a o=true) (L:Lk) (fr:Nat):(ah L fr (o.op.map (bU S))).1≠.nils:=by
 obtain ⟨d,op,g⟩:=o
 cases op<;>simp only [jL] at hq<;>(try cases hq)
 rename_i n x
 have h1:=KW h hq
 cases n<;>cases hv:bU S x<;>simp_all [HOp.map,ah]
theorem FI {nx:Nat} {a:RS} {S:Lk} (h:RI nx a S) {x:HX} (hx:inT a.2.2 x=true):(bU S x).inn (·<nx):=by
 cases x with
 | t i=>exact h.old i (by simpa [inT] using hx)
 | c v=>cases hx
theorem PK {nx:Nat} {a:RS} {S:Lk} {o:HOper} (h:RI nx a S) (hq:yQ a o=true) (L:Lk) (fr:Nat):(ah L fr (o.op.map (bU S))).1.inn (·<nx):=by
 obtain ⟨d,op,g⟩:=o
 cases op<;>simp only [yQ] at hq<;>(try cases hq)
 case mv n x=>cases n with
  | zero =>
   have h1:=FI h hq
   cases hv:bU S x<;>(rw [hv] at h1;simpa [HOp.map,ah,hv] using h1)
  | succ n =>
   simp only [aZ] at hq
   have h1:=FI h hq.1
   have h2:=KW h hq.2
   cases hv:bU S x<;>first|exact absurd hv h2|(rw [hv] at h1;simpa [HOp.map,ah,hv] using h1)
 case iaddr sz x y =>
  have h1:=FI h hq
  cases hv:bU S y<;>cases hw:bU S x<;>(simp only [HOp.map,ah,hv,hw];rw [hw] at h1)
  all_goals first|exact bQ|skip
  ·simpa using h1
  ·intro z hz
   exact h1 z hz
theorem y7 {nx:Nat} {a:RS} {S:Lk} {o:HOper} (h:RI nx a S) (hq:Aj a o=true) (L:Lk) (fr:Nat):(ah L fr (o.op.map (bU S))).2.1=[]/\∀x∈jH o S,x<nx:=by
 obtain ⟨d,op,g⟩:=o
 cases op<;>simp only [Aj] at hq<;>(try cases hq)
 rename_i b sz x
 have h1:=FI h hq
 refine ⟨?_,fun z hz=>h1 z ?_⟩
 ·cases hv:bU S x<;>cases b<;>simp [HOp.map,ah,hv]
 ·simpa [jH,HOp.map,HOp.vals,aQ] using hz
theorem UY {L:Lk} {v:HV} (h:v.deep=[]):(takeC L v).2.1=[]:=by
 cases v<;>simp_all [takeC,HV.deep]
theorem Ub:∀ {l:List HV} {L:Lk},aQ l=[]->(fQ L l).2.1=[]:=by
 intro l
 induction l with
 | nil=>intro L _;rfl
 | cons v r ih =>
  intro L h
  simp only [aQ,zl115] at h
  simp only [fQ,UY h.1,Lk.upd,List.nil_append]
  exact ih h.2
theorem BB {nx:Nat} {a:RS} {S:Lk} {o:HOper} (h:RI nx a S) (hq:BN a o=true) (L:Lk) (fr:Nat):iE (ah L fr (o.op.map (bU S))).2.1=[fr]/\jH o S=[]:=by
 obtain ⟨d,op,g⟩:=o
 cases op<;>simp only [BN] at hq<;>(try cases hq)
 rename_i sz n xs
 have hd:aQ (xs.map (bU S))=[]:=by
  rw [zl036]
  intro z hz
  rw [mem_deepL] at hz
  obtain ⟨v,hv,hz⟩:=hz
  obtain ⟨x,hx,rfl⟩:=zl020.1 hv
  have:=ac8 (jB h (zl016.1 hq x hx))
  rw [this] at hz;cases hz
 have hd2:aQ ((xs.map (bU S)).flatMap cellsOf)=[]:=by
  rw [zl036]
  intro z hz
  have:=Ei hz
  rw [hd] at this;cases this
 refine ⟨?_,by simpa [jH,HOp.map,HOp.vals] using hd⟩
 simp only [HOp.map,ah,Ub hd2,List.nil_append]
 rfl
theorem RI.rest {nx:Nat} {a:RS} {S:Lk} (h:RI nx a S) {o:HOper} (e:HV×List Upd):RI nx (without a.1 o.dst,without a.2.1 o.dst,without a.2.2 o.dst) (nZ o e S):=by
 refine ⟨fun t ht=>?_,fun t ht=>?_,fun t ht=>?_⟩
 ·obtain ⟨h1,h2⟩:=yR ht
  simp only [nZ,if_neg h2]
  exact Xb (h.ro t h1)
 ·obtain ⟨h1,h2⟩:=yR ht
  simp only [nZ,if_neg h2]
  exact abG (h.nn t h1)
 ·obtain ⟨h1,h2⟩:=yR ht
  simp only [nZ,if_neg h2]
  exact Xc (h.old t h1)
theorem CQ {c:Bool} {t u:Nat} {l:List Nat} (h:u∈more c t l):(c=true/\u=t)\/u∈l:=by
 unfold more at h
 split at h
 ·rename_i hc
  rcases zl011.1 h with h|h
  ·exact .inl ⟨hc,h⟩
  ·exact .inr h
 ·exact .inr h
theorem RI.step {nc:Bool} {nx:Nat} {a:RS} {S:Lk} (h:RI nx a S) {o:HOper} (e:HV×List Upd) (h1:(quiet a o || (nc&&aad o))=true->e.1.inn F0) (h2:o.guard=none->jL a o=true->e.1≠.nils) (h3:o.guard=none->yQ a o=true->e.1.inn (·<nx)):RI nx (Bg nc a o) (nZ o e S):=by
 have hr:=h.rest (o:=o) e
 unfold Bg
 split
 ·rename_i t hg hd
  refine ⟨fun u hu=>?_,fun u hu=>?_,fun u hu=>?_⟩
  ·rcases CQ hu with ⟨hc,rfl⟩|hu
   ·simp only [nZ,hd,if_true];exact h1 hc
   ·exact hr.ro u hu
  ·rcases CQ hu with ⟨hc,rfl⟩|hu
   ·simp only [nZ,hd,if_true];exact h2 hg hc
   ·exact hr.nn u hu
  ·rcases CQ hu with ⟨hc,rfl⟩|hu
   ·simp only [nZ,hd,if_true];exact h3 hg hc
   ·exact hr.old u hu
 ·rename_i t hg hd
  refine ⟨fun u hu=>?_,hr.nn,hr.old⟩
  rcases CQ hu with ⟨hc,rfl⟩|hu
  ·simp only [nZ,hd,if_true];exact h1 hc
  ·exact hr.ro u hu
 ·exact hr
theorem RI.loud {nc:Bool} {nx:Nat} {a:RS} {S:Lk} (h:RI nx a S) {o:HOper} (hq:quiet a o=false/\jL a o=false/\yQ a o=false) (e:HV×List Upd) (hn:nc=true->e.1.inn F0):RI nx (Bg nc a o) (nZ o e S) :=
 h.step e (fun hh=>hn (by rw [hq.1,vY] at hh;exact (Bool.and_eq_true_iff.1 hh).1)) (fun _ h=>by rw [hq.2.1] at h;cases h) (fun _ h=>by rw [hq.2.2] at h;cases h)
theorem RI.skip {nc:Bool} {nx:Nat} {a:RS} {S:Lk} (h:RI nx a S) {o:HOper} (hg:o.guard≠none) {e:HV×List Upd} (hn:e.1.inn F0):RI nx (Bg nc a o) (nZ o e S) :=
 h.step e (fun _=>hn) (fun h=>absurd h hg) (fun h=>absurd h hg)
theorem RI.exec {nc:Bool} {nx:Nat} {a:RS} {S M:Lk} {fr:Nat} (h:RI nx a S) {o:HOper}:RI nx (Bg nc a o) (nZ o ((ah M fr (o.op.map (bU S))).1,(ah M fr (o.op.map (bU S))).2.1) S) :=
 h.step _ (fun hq=>by
  rcases Bool.or_eq_true_iff.1 hq with hq|hq
  ·exact (I5 h hq M fr).2.1
  ·obtain ⟨d,op,g⟩:=o
   replace hq:=(Bool.and_eq_true_iff.1 hq).2
   cases op<;>simp only [aad] at hq<;>(first|exact bQ|cases hq)) (fun _ hq=>OU h hq M fr) (fun _ hq=>PK h hq M fr)
def Told (nx:Nat) (a:RS) (o:HOper) (i:Nat) (t ids:List Nat):Prop :=
 (quiet a o=true->t=[]/\ids=[])/\(Aj a o=true->t=[]/\∀x∈ids,x<nx)/\(BN a o=true->(∀x∈t,BQ nx i x)/\ids=[])
def SB (nx:Nat) (a:RS) (o:HOper) (i:Nat) (W R:List Nat):Prop:=∃t ids,Told nx a o i t ids/\(∀c∈W,c / 2∈t)/\∀c∈R,c / 2∈ids
theorem Told.e {nx:Nat} {a:RS} {o o2:HOper} {i:Nat} {us:List Upd} {S:Lk} (h:Told nx a o i (iE us) (jH o2 S)):SB nx a o i (vP o2 S us) (qH o2 S):=⟨_,_,h,fun _ hc=>L9 hc,fun _ hc=>yO hc⟩
theorem WE {nc:Bool} {P:Program} {D:FuncId->List HV->HV->Prop} {ops:List HOper} {masks:List Nat} {nx:Nat} {K:St->Prop} {a0:RS} (hlit:∀ (i:Nat) (o:HOper),ops[i]?=some o->rC o=true) (hDn:nc=true->∀f args r,D f args r->∀fr,(unpack fr r).1.inn F0) (hns:Cj nc masks ops a0=true):∀ (rest:List HOper) (i:Nat) (log:l7) (s:St),ops.drop i=rest->s.nx=nx->(∀q∈log,q.1<i)->(∀q∈log,∀o,ops[q.1]?=some o->SB nx (rZ nc ops a0 q.1) o q.1 q.2.1 q.2.2)->RI nx (rZ nc ops a0 i) s.S->Inv nx (fun k=>k<i) s.S s.M->(∀q∈log,∀x∈q.2.2,vO nx (fun k=>k<q.1) (x / 2))->hops (CS P D) ops rest i K s ->
  dr (HT2 P) (DS.of D) ops masks nx (fun S M=>∃s':St,s'.S=S/\s'.M=M/\s'.nx=nx/\K s') (List.range' i rest.length) log s.S s.M:=by
 intro rest
 induction rest with
 | nil=>intro i log s _ hnx _ _ _ _ _ h;exact ⟨s,rfl,rfl,hnx,h⟩
 | cons o rest ih =>
  intro i log s hdrop hnx hlog hlq hRI hI hlb h
  have hoi:ops[i]?=some o:=by
   have:=congrArg (fun l:List HOper=>l[0]?) hdrop
   simpa using this
  have hdrop':ops.drop (i+1)=rest:=by
   have:=congrArg (List.drop 1) hdrop
   simpa [sV,lK] using this
  simp only [List.length_cons,GR]
  have hil:=(zl026.1 hoi).1
  have ck:∀e:HV×List Upd,Told nx (rZ nc ops a0 i) o i (iE e.2) (jH o s.S)->∀q∈log,chk (fun _=>false) masks ops i o e s.S q:=by
   intro e he q hq b1 _ o' ho' hs
   have hlt:=hlog q hq
   obtain ⟨t,ids,hl,hlt1,hlt2⟩:=hlq q hq o' ho'
   simp only [Cj,zl016,zl032,Dv] at hns
   have h:=hns i hil q.1 hlt
   rw [ho',hoi] at h
   simp only [Dv,zu,aZ] at h
   have w2:=fun c (hc:c∈vP o s.S e.2)=>L9 hc
   have r2:=fun c (hc:c∈qH o s.S)=>yO hc
   rw [Gf] at hs
   rcases h with h|(((h|h)|h)|h)|h
   ·rw [b1] at h;cases h
   ·rw [h] at hs;cases hs
   ·obtain ⟨p1,p2⟩:=hl.1 h
    rw [p1] at hlt1
    rw [p2] at hlt2
    exact ⟨fun x _ hx=>by have:=hlt2 x hx;simp at this,fun x hx=>by have:=hlt1 x hx;simp at this⟩
   ·obtain ⟨p1,p2⟩:=he.1 h
    rw [p1] at w2
    rw [p2] at r2
    exact ⟨fun x hx=>by have:=w2 x hx;simp at this,fun x _ hx=>by have:=r2 x hx;simp at this⟩
   ·obtain ⟨p3,p4⟩:=he.2.2 h
    rw [p4] at r2
    refine ⟨fun x hx hx'=>?_,fun x _ hx'=>by have:=r2 x hx';simp at this⟩
    have h3:=p3 _ (w2 x hx)
    have h4:=hlb q hq x hx'
    rcases h4 with h4|⟨k,h4,h5⟩
    ·unfold BQ at h3;omega
    ·have:k+1<=i:=by omega
     have:=Nat.mul_le_mul_left stride this
     unfold BQ at h3 h5
     omega
   ·obtain ⟨p1,p2⟩:=hl.2.2 h.1
    obtain ⟨p3,p4⟩:=he.2.1 h.2
    rw [p3] at w2
    refine ⟨fun x hx=>by have:=w2 x hx;simp at this,fun x hx hx'=>?_⟩
    have h5:=p1 _ (hlt1 x hx)
    have h6:=p4 _ (r2 x hx')
    unfold BQ at *
    omega
  have hacc:rZ nc ops a0 (i+1)=Bg nc (rZ nc ops a0 i) o:=by
   unfold rZ
   rw [Xu hil,List.foldl_append]
   have:ops[i]=o:=by rw [bn hil] at hoi;exact ET hoi
   rw [this];rfl
  have hent:∀us:List Upd,Told nx (rZ nc ops a0 i) o i (iE us) (jH o s.S)->∀q∈(i,vP o s.S us,qH o s.S)::log,∀o',ops[q.1]?=some o'->SB nx (rZ nc ops a0 q.1) o' q.1 q.2.1 q.2.2:=by
   intro us hus q hq o' ho'
   rcases zl011.1 hq with rfl|hq
   ·rw [hoi] at ho'
    cases ho'
    exact hus.e
   ·exact hlq q hq o' ho'
  have tskip:Told nx (rZ nc ops a0 i) o i (iE []) (jH o s.S):=⟨fun h=>⟨rfl,IU hRI h⟩,fun h=>⟨rfl,(y7 hRI h s.M 0).2⟩,fun h=>⟨by simp [iE],(BB hRI h s.M 0).2⟩⟩
  have stepS:∀ (us:List Upd) (v:HV),((s.upd us).put o.dst v).S=nZ o (v,us) s.S:=fun us v=>by rw [St.put_S,St.upd_S];rfl
  have stepM:∀ (us:List Upd) (v:HV),((s.upd us).put o.dst v).M=yE (v,us) s.M:=fun us v=>by rw [St.put_M,St.upd_M];rfl
  have hids:∀x∈jH o s.S,vO nx (fun k=>k<i) x:=fun x hx=>innL_iff.1 (Dq hI (hlit i o hoi)) x hx
  have inv:∀e,eH (HT2 P) (DS.of D) ops (nx+stride*i) o s.S s.M->iG (DS.of D) ops (nx+stride*i) o s.S s.M e->Inv nx (fun k=>k<i+1) (nZ o e s.S) (yE e s.M):=fun e hs hre=>by
   obtain ⟨f1,f2,_,_⟩:=uP hI (hlit i o hoi) hs hre
   have h1:=hI.step (o:=o) f1 f2
   have h2:(fun k=>k<i\/k=i)=(fun k=>k<i+1):=by funext k;exact propext ⟨fun h=>by omega,fun h=>by omega⟩
   rw [h2] at h1
   exact h1
  have next:∀ (us:List Upd) (v:HV) ent,ent.1=i->ent.2.2=qH o s.S->(∀q∈ent::log,∀o',ops[q.1]?=some o'->SB nx (rZ nc ops a0 q.1) o' q.1 q.2.1 q.2.2)->RI nx (rZ nc ops a0 (i+1)) ((s.upd us).put o.dst v).S->Inv nx (fun k=>k<i+1) (nZ o (v,us) s.S) (yE (v,us) s.M)->hops (CS P D) ops rest (i+1) K ((s.upd us).put o.dst v)->dr (HT2 P) (DS.of D) ops masks nx (fun S M=>∃s':St,s'.S=S/\s'.M=M/\s'.nx=nx/\K s') (List.range' (i+1) rest.length) (ent::log) (nZ o (v,us) s.S) (yE (v,us) s.M):=by
   intro us v ent he he2 hent hri hI' h'
   have:=ih (i+1) (ent::log) ((s.upd us).put o.dst v) hdrop' (by rw [St.put_nx,St.upd_nx];exact hnx) (fun q hq=>by
    rcases zl011.1 hq with rfl|hq
    ·omega
    ·have:=hlog q hq;omega) hent hri (by rw [stepS,stepM];exact hI') (fun q hq x hx=>by
    rcases zl011.1 hq with rfl|hq
    ·rw [he2] at hx;rw [he];exact hids _ (yO hx)
    ·exact hlb q hq x hx) h'
   rw [stepS,stepM] at this
   exact this
  have hstr:s.nx+stride*(i+1)=nx+stride*i+stride:=by rw [hnx];unfold stride;omega
  have run:gd ops o s.S=some true->hop (CS P D) s i o (hops (CS P D) ops rest (i+1) K)->∃o',ops[i]?=some o'/\eH (HT2 P) (DS.of D) ops (nx+stride*i) o' s.S s.M/\(∃e,iG (DS.of D) ops (nx+stride*i) o' s.S s.M e)/\∀e,iG (DS.of D) ops (nx+stride*i) o' s.S s.M e->(∀q∈log,chk (fun _=>false) masks ops i o' e s.S q)/\dr (HT2 P) (DS.of D) ops masks nx (fun S M=>∃s':St,s'.S=S/\s'.M=M/\s'.nx=nx/\K s') (List.range' (i+1) rest.length) ((i,vP o' s.S e.2,qH o' s.S)::log) (nZ o' e s.S) (yE e s.M):=by
   intro hg hh
   refine ⟨o,hoi,?_⟩
   unfold eH iG
   rw [hg]
   simp only
   have hM:(fun i=>au i s.st)=s.M:=rfl
   replace hh:=hh.resolve_right (fun h=>h)
   unfold hop0 at hh
   rw [jd,hM,hstr,hnx] at hh
   have callc:∀ (f:FuncId) (args xs:List HV),(∀t ids,Told nx (rZ nc ops a0 i) o i t ids)/\(quiet (rZ nc ops a0 i) o=false/\jL (rZ nc ops a0 i) o=false/\yQ (rZ nc ops a0 i) o=false)->((HT P f args (D f args)/\∀r,D f args r->r.deep=[]->(aO xs || r.noRd)=true/\(unpack (nx+stride*i) r).2.2<=nx+stride*i+stride)->eH (HT2 P) (DS.of D) ops (nx+stride*i) o s.S s.M)->(∀e:HV×List Upd,(∃r,D f args r/\r.deep=[]/\e=((unpack (nx+stride*i) r).1,(unpack (nx+stride*i) r).2.1))->iG (DS.of D) ops (nx+stride*i) o s.S s.M e)->(CS P D f args fun r=>(aO xs || r.noRd)=true/\(unpack (nx+stride*i) r).2.2<=nx+stride*i+stride/\hops (CS P D) ops rest (i+1) K ((s.upd (unpack (nx+stride*i) r).2.1).put o.dst (unpack (nx+stride*i) r).1)) ->
     (HT P f args (D f args)/\∀r,D f args r->r.deep=[]->(aO xs || r.noRd)=true/\(unpack (nx+stride*i) r).2.2<=nx+stride*i+stride)/\(∃e:HV×List Upd,∃r,D f args r/\r.deep=[]/\e=((unpack (nx+stride*i) r).1,(unpack (nx+stride*i) r).2.1)) /\
     ∀e:HV×List Upd,(∃r,D f args r/\r.deep=[]/\e=((unpack (nx+stride*i) r).1,(unpack (nx+stride*i) r).2.1))->(∀q∈log,chk (fun _=>false) masks ops i o e s.S q)/\dr (HT2 P) (DS.of D) ops masks nx (fun S M=>∃s':St,s'.S=S/\s'.M=M/\s'.nx=nx/\K s') (List.range' (i+1) rest.length) ((i,vP o s.S e.2,qH o s.S)::log) (nZ o e s.S) (yE e s.M):=by
    rintro f args xs hnq hf1 hf2 ⟨c1,⟨r0,c2,c3⟩,c4⟩
    have hsd:HT P f args (D f args)/\∀r,D f args r->r.deep=[]->(aO xs || r.noRd)=true/\(unpack (nx+stride*i) r).2.2<=nx+stride*i+stride:=⟨c1,fun r a b=>⟨(c4 r a b).1,(c4 r a b).2.1⟩⟩
    refine ⟨hsd,⟨_,r0,c2,c3,rfl⟩,?_⟩
    rintro e ⟨r,d1,d2,rfl⟩
    exact ⟨ck _ (hnq.1 _ _),next _ _ _ rfl rfl (hent _ (hnq.1 _ _)) (by rw [hacc,stepS];exact RI.loud hRI hnq.2 _ (fun hnc=>hDn hnc _ _ _ d1 _)) (inv _ (hf1 hsd) (hf2 _ ⟨r,d1,d2,rfl⟩)) (c4 r d1 d2).2.2⟩
   split at hh
   ·rename_i f xs heq
    rw [heq]
    have hq:=Ht (nx:=nx) (a:=rZ nc ops a0 i) (.inl ⟨f,xs,heq⟩)
    exact callc f _ xs ⟨fun t ids=>⟨(hq.1 t ids).1,(hq.1 t ids).2.1,fun h=>⟨((hq.1 t ids).2.2 h).1 i,((hq.1 t ids).2.2 h).2⟩⟩,hq.2⟩ (fun h=>by unfold eH;rw [hg];simp only;rw [heq];exact h) (fun e h=>by unfold iG;rw [hg];simp only;rw [heq];exact h) hh
   ·rename_i f cap xs heq
    rw [heq]
    have hq:=Ht (nx:=nx) (a:=rZ nc ops a0 i) (.inr ⟨_,xs,heq⟩)
    exact callc f _ (xs++cap) ⟨fun t ids=>⟨(hq.1 t ids).1,(hq.1 t ids).2.1,fun h=>⟨((hq.1 t ids).2.2 h).1 i,((hq.1 t ids).2.2 h).2⟩⟩,hq.2⟩ (fun h=>by unfold eH;rw [hg];simp only;rw [heq];exact h) (fun e h=>by unfold iG;rw [hg];simp only;rw [heq];exact h) hh
   ·rename_i op h1 h2
    have e1:kT (HT2 P) (DS.of D) s.M (nx+stride*i) (o.op.map (bU s.S))=(ah s.M (nx+stride*i) (o.op.map (bU s.S))).2.2:=by
     unfold kT;split
     ·rename_i f xs heq;exact absurd heq (h1 f xs)
     ·rename_i f cap xs heq;exact absurd heq (h2 f cap xs)
     ·rfl
    have e2:∀e,nY (DS.of D) s.M (nx+stride*i) e (o.op.map (bU s.S))=(e=((ah s.M (nx+stride*i) (o.op.map (bU s.S))).1,(ah s.M (nx+stride*i) (o.op.map (bU s.S))).2.1)):=fun e=>by
     unfold nY;split
     ·rename_i f xs heq;exact absurd heq (h1 f xs)
     ·rename_i f cap xs heq;exact absurd heq (h2 f cap xs)
     ·rfl
    rw [e1]
    simp only [e2]
    refine ⟨hh.1,⟨_,rfl⟩,?_⟩
    rintro e rfl
    have hus:Told nx (rZ nc ops a0 i) o i (iE (ah s.M (nx+stride*i) (o.op.map (bU s.S))).2.1) (jH o s.S) :=
     ⟨fun h=>⟨by rw [(I5 hRI h _ _).1];rfl,IU hRI h⟩,fun h=>⟨by rw [(y7 hRI h _ _).1];rfl,(y7 hRI h s.M 0).2⟩,fun h=>⟨by rw [(BB hRI h _ _).1];intro x hx;simp at hx;subst hx;unfold BQ stride;omega,(BB hRI h s.M 0).2⟩⟩
    exact ⟨ck _ hus,next _ _ _ rfl rfl (hent _ hus) (by rw [hacc,stepS];exact RI.exec hRI) (inv _ (by unfold eH;rw [hg];simp only;rw [e1];exact hh.1) (by unfold iG;rw [hg];simp only;rw [e2])) hh.2⟩
  simp only [hops] at h
  cases hg:o.guard with
  | none =>
   rw [hg] at h
   exact run (by unfold gd;rw [hg]) h
  | some jw =>
   obtain ⟨j,want⟩:=jw
   rw [hg] at h
   simp only at h
   cases hd:(ops[j]?).bind (·.dst) with
   | none=>rw [hd] at h;exact h.elim
   | some d =>
    rw [hd] at h
    simp only [gV] at h
    generalize hv:au d s.sl=v at h
    cases v with
    | bool b =>
     simp only at h
     have hv':s.S d=.bool b:=hv
     have hgd:gd ops o s.S=some (b==want):=by unfold gd;rw [hg];simp only [hd,gV,hv']
     by_cases hbw:b=want
     ·exact run (by rw [hgd];simp [hbw]) (h.1 hbw)
     ·refine ⟨o,hoi,?_⟩
      have:(b==want)=false:=by simpa using hbw
      unfold eH iG
      rw [hgd,this]
      simp only
      refine ⟨trivial,⟨_,rfl⟩,?_⟩
      rintro e rfl
      exact ⟨ck _ tskip,next [] (.tup []) _ rfl rfl (hent [] tskip) (by rw [hacc,stepS];exact RI.skip hRI (by rw [hg];simp) (by intro x hx;cases hx)) (inv _ (by unfold eH;rw [hgd,this];trivial) (by unfold iG;rw [hgd,this])) (h.2 hbw)⟩
    | tup cs =>
     cases cs with
     | cons _ _=>exact h.elim
     | nil =>
      simp only at h
      have hv':s.S d=.tup []:=hv
      have hgd:gd ops o s.S=some false:=by unfold gd;rw [hg];simp only [hd,gV,hv']
      refine ⟨o,hoi,?_⟩
      unfold eH iG
      rw [hgd]
      simp only
      refine ⟨trivial,⟨_,rfl⟩,?_⟩
      rintro e rfl
      exact ⟨ck _ tskip,next [] (.tup []) _ rfl rfl (hent [] tskip) (by rw [hacc,stepS];exact RI.skip hRI (by rw [hg];simp) (by intro x hx;cases hx)) (inv _ (by unfold eH;rw [hgd];trivial) (by unfold iG;rw [hgd])) h⟩
    | _=>exact h.elim
theorem Jp (nc:Bool) {P:Program} {k:List HI} {Q:HE->St->Prop} {s:St} {ops:List HOper} {masks:List Nat} (ro0 old0:List Nat) (h1:lQ masks ops=true) (h2:Cj nc masks ops (ro0,ro0++old0,old0)=true) (D:FuncId->List HV->HV->Prop) (h0:∀t∈ro0,(au t s.sl).deep=[]/\au t s.sl≠.nils) (h00:∀t∈old0,(∀x∈(au t s.sl).deep,x<s.nx)/\au t s.sl≠.nils) (h:hx P (.o (CS P D) ops ops 0::k) Q s) (hDn:nc=true->∀f args r,D f args r->∀fr,(unpack fr r).1.inn F0):hx P (.c (.region (some masks) ops)::k) Q s:=by
 refine Ri (Weak.refl s) ?_
 refine ⟨h1,fun hI=>.inl ⟨DS.of D,?_⟩⟩
 have hlit:∀i o,ops[i]?=some o->rC o=true:=fun i o ho=>(lH h1 ho).2.1
 have hI0:Inv s.nx (fun k=>k<0) s.S s.M:=by
  have:(fun k:Nat=>k<0)=fun _=>False:=by funext k;exact propext ⟨fun h=>by omega,fun h=>h.elim⟩
  rw [this];exact hI
 have hRI:RI s.nx (rZ nc ops (ro0,ro0++old0,old0) 0) s.S:=by
  refine ⟨fun t ht x hx=>?_,fun t ht=>?_,fun t ht=>(h00 t ht).1⟩
  ·have h3:=(h0 t ht).1
   have h4:s.S t=au t s.sl:=rfl
   rw [h4,h3] at hx
   cases hx
  ·rcases zl002.1 ht with ht|ht
   ·exact (h0 t ht).2
   ·exact (h00 t ht).2
 unfold hx at h
 have:=WE hlit hDn h2 ops 0 [] s rfl rfl (by simp) (by simp) hRI hI0 (by simp) h
 rw [GI]
 exact this
theorem jR {P:Program} {k:List HI} {Q:HE->St->Prop} {s:St} {ops:List HOper} {masks:List Nat} (ro0 old0:List Nat) (h1:lQ masks ops=true) (h2:Cj true masks ops (ro0,ro0++old0,old0)=true) (D:FuncId->List HV->HV->Prop) (h0:∀t∈ro0,(au t s.sl).deep=[]/\au t s.sl≠.nils) (h00:∀t∈old0,(∀x∈(au t s.sl).deep,x<s.nx)/\au t s.sl≠.nils) (h:hx P (.o (CS P D) ops ops 0::k) Q s) (hDn:∀f args r,D f args r->∀fr,(unpack fr r).1.inn F0:=by intro _ _ _ h;exact h.elim):hx P (.c (.region (some masks) ops)::k) Q s :=
 Jp true ro0 old0 h1 h2 D h0 h00 h (fun _=>hDn)
theorem Xg {P:Program} {k:List HI} {Q:HE->St->Prop} {s:St} {ops:List HOper} {masks:List Nat} (ro0 old0:List Nat) (h1:lQ masks ops=true) (h2:Cj false masks ops (ro0,ro0++old0,old0)=true) (D:FuncId->List HV->HV->Prop) (h0:∀t∈ro0,(au t s.sl).deep=[]/\au t s.sl≠.nils) (h00:∀t∈old0,(∀x∈(au t s.sl).deep,x<s.nx)/\au t s.sl≠.nils) (h:hx P (.o (CS P D) ops ops 0::k) Q s):hx P (.c (.region (some masks) ops)::k) Q s :=
 Jp false ro0 old0 h1 h2 D h0 h00 h (fun h=>by cases h)
end Go.HL
