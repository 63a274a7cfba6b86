import Derived.WalkKit
set_option linter.unusedSimpArgs false
set_option linter.unusedVariables false
namespace Go.FS
structure A where
 f:Int
 i:Int
 o:Int
 t:Int
 deriving Inhabited,DecidableEq
abbrev Nd:=Int×Int
section
variable (fin:List Bool) (al:List A) (w:List Int)
def isFin (p:Int):Prop:=0<=p/\fin.getD p.toNat false=true
inductive Mv:Nd->Int->Nd->Prop
 | eps {a:A} {x:Nd}:a∈al->a.f=x.1->a.i = -1->Mv x a.o (a.t,x.2)
 | sym {a:A} {x:Nd}:a∈al->a.f=x.1->a.i ≠ -1->0<=x.2->x.2<w.length->w.getD x.2.toNat 0=a.i->Mv x a.o (a.t,x.2+1)
inductive Good:Nd->Prop
 | fin {p:Int}:isFin fin p->Good (p,w.length)
 | mv {x y:Nd} {o:Int}:Mv al w x o y->Good y->Good x
inductive At:List Int->Nd->Prop
 | nil:Good fin al w (0,0)->At [] (0,0)
 | eps {v:List Int} {x y:Nd}:At v x->Mv al w x (-1) y->Good fin al w y->At v y
 | sym {v:List Int} {x y:Nd} {s:Int}:At v x->Mv al w x s y->s ≠ -1->Good fin al w y->At (v++[s]) y
def Out (v:List Int):Prop:=∃p,At fin al w v (p,w.length)/\isFin fin p
def Beg (v:List Int):Prop:=∃y,At fin al w v y
inductive Cl (S:Nd->Prop):Nd->Prop
 | on {x:Nd}:S x->Cl S x
 | eps {x y:Nd}:Cl S x->Mv al w x (-1) y->Good fin al w y->Cl S y
def By (S:Nd->Prop) (s:Int) (y:Nd):Prop:=∃x,S x/\Mv al w x s y/\Good fin al w y
end
section
variable {fin:List Bool} {al:List A} {w:List Int}
theorem At.good {v:List Int} {y:Nd} (h:At fin al w v y):Good fin al w y:=by cases h<;>assumption
theorem at_nil {y:Nd}:At fin al w [] y <-> Cl fin al w (fun x=>x=(0,0)/\Good fin al w (0,0)) y:=by
 constructor
 ·intro h
  generalize hv:([]:List Int)=v at h
  induction h with
  | nil hg=>exact .on ⟨rfl,hg⟩
  | eps _ hm hg ih=>exact .eps (ih hv) hm hg
  | sym=>simp at hv
 ·intro h
  induction h with
  | on h=>obtain ⟨rfl,hg⟩:=h;exact .nil hg
  | eps _ hm hg ih=>exact .eps ih hm hg
theorem zU {v:List Int} {s:Int} {y:Nd} (hs:s ≠ -1):At fin al w (v++[s]) y <-> Cl fin al w (By fin al w (At fin al w v) s) y:=by
 constructor
 ·intro h
  generalize hu:v++[s]=u at h
  induction h with
  | nil hg=>simp at hu
  | eps _ hm hg ih=>exact .eps (ih hu) hm hg
  | @sym v' x y s' h1 hm hs' hg =>
   obtain ⟨rfl,h2⟩:=List.append_inj' hu rfl
   simp at h2
   subst h2
   exact .on ⟨x,h1,hm,hg⟩
 ·intro h
  induction h with
  | on h=>obtain ⟨x,h1,hm,hg⟩:=h;exact .sym h1 hm hs hg
  | eps _ hm hg ih=>exact .eps ih hm hg
theorem At.ne {v:List Int} {y:Nd} (h:At fin al w v y):∀s∈v,s ≠ -1:=by
 induction h with
 | nil=>simp
 | eps _ _ _ ih=>exact ih
 | sym _ _ hs _ ih =>
  intro s h
  rcases List.mem_append.1 h with h|h
  ·exact ih s h
  ·simp at h;rw [h];exact hs
theorem Beg.init {v:List Int} {s:Int} (h:Beg fin al w (v++[s])):Beg fin al w v:=by
 obtain ⟨y,h⟩:=h
 have hs:s ≠ -1:=h.ne s (by simp)
 rw [zU hs] at h
 induction h with
 | on h=>obtain ⟨x,h1,_⟩:=h;exact ⟨x,h1⟩
 | eps _ _ _ ih=>exact ih
theorem Beg.pre {v u:List Int} (h:Beg fin al w (v++u)):Beg fin al w v:=by
 induction u generalizing v with
 | nil=>simpa using h
 | cons s u ih=>exact (ih (v:=v++[s]) (by simpa using h)).init
theorem Out.beg {v:List Int} (h:Out fin al w v):Beg fin al w v:=let ⟨p,h,_⟩:=h;⟨_,h⟩
theorem Beg.out {v:List Int} (h:Beg fin al w v):∃u,Out fin al w (v++u):=by
 obtain ⟨y,h⟩:=h
 have hg:=h.good
 induction hg generalizing v with
 | fin hf=>exact ⟨[],by simpa using ⟨_,h,hf⟩⟩
 | @mv x z o hm hg ih =>
  by_cases ho:o = -1
  ·subst ho;exact ih (h.eps hm hg)
  ·obtain ⟨u,hu⟩:=ih (h.sym hm ho hg)
   exact ⟨o::u,by simpa using hu⟩
open Classical in
noncomputable def ext (fin:List Bool) (al:List A) (w:List Int) (v:List Int):List (List Int):=((List.range 64).map fun s:Nat=>v++[(s:Int)]).filter fun u=>decide (Beg fin al w u)
open Classical in
noncomputable def sH (fin:List Bool) (al:List A) (w:List Int):Nat->List (List Int)
 | 0=>if Beg fin al w [] then [[]] else []
 | n+1=>(sH fin al w n).flatMap (ext fin al w)
open Classical in
noncomputable def outs (fin:List Bool) (al:List A) (w:List Int) (l:List (List Int)):List (List Int):=l.filter fun v=>decide (Out fin al w v)
noncomputable def upto (fin:List Bool) (al:List A) (w:List Int):Nat->List (List Int)
 | 0=>[]
 | n+1=>upto fin al w n++outs fin al w (sH fin al w n)
def Lst (fin:List Bool) (al:List A) (w:List Int) (most:Int) (l:List (List Int)):Prop:=∃n,sH fin al w n=[]/\l=upto fin al w n/\(l.length:Int)<=most
def Eh (al:List A):Prop:=∀a∈al,-1<=a.o/\a.o<64
theorem W9 {x y:Nd} {o:Int} (h:Mv al w x o y):∃a∈al,a.o=o:=by cases h with
 | eps h1=>exact ⟨_,h1,rfl⟩
 | sym h1=>exact ⟨_,h1,rfl⟩
theorem aai (hk:Eh al) {v u:List Int}:u∈ext fin al w v <-> Beg fin al w u/\∃s:Int,u=v++[s]:=by
 simp only [ext,List.mem_filter,List.mem_map,List.mem_range,decide_eq_true_eq]
 constructor
 ·rintro ⟨⟨s,_,rfl⟩,h⟩;exact ⟨h,_,rfl⟩
 ·rintro ⟨h,s,rfl⟩
  refine ⟨?_,h⟩
  obtain ⟨y,hy⟩:=h
  have hs:s ≠ -1:=hy.ne s (by simp)
  have:∃a∈al,a.o=s:=by
   rw [zU hs] at hy
   induction hy with
   | on h=>obtain ⟨_,_,hm,_⟩:=h;exact W9 hm
   | eps _ _ _ ih=>exact ih
  obtain ⟨a,ha,rfl⟩:=this
  have:=hk a ha
  exact ⟨a.o.toNat,by omega,by rw [Int.toNat_of_nonneg (by omega)]⟩
theorem oK (hk:Eh al) {n:Nat} {v:List Int}:v∈sH fin al w n <-> Beg fin al w v/\v.length=n:=by
 induction n generalizing v with
 | zero =>
  unfold sH
  constructor
  ·intro h
   split at h
   ·rename_i hb
    simp at h;subst h;exact ⟨hb,rfl⟩
   ·cases h
  ·rintro ⟨h,hl⟩
   obtain rfl:=List.eq_nil_of_length_eq_zero hl
   rw [if_pos h];simp
 | succ n ih =>
  simp only [sH,List.mem_flatMap,ih,aai hk]
  constructor
  ·rintro ⟨v',⟨_,hl⟩,h,s,rfl⟩
   exact ⟨h,by simp [hl]⟩
  ·rintro ⟨h,hl⟩
   rcases List.eq_nil_or_concat v with rfl|⟨v',s,rfl⟩
   ·simp at hl
   ·rw [List.concat_eq_append] at h hl ⊢
    simp at hl
    exact ⟨v',⟨h.init,hl⟩,h,s,rfl⟩
theorem TZ (v:List Int):(ext fin al w v).Nodup:=by
 refine List.Pairwise.filter _ ?_
 have:(List.range 64).Nodup:=List.nodup_range
 rw [List.pairwise_map]
 refine this.imp ?_
 intro a b hab e
 have:=List.append_cancel_left e
 simp at this
 omega
theorem JF (n:Nat):(sH fin al w n).Nodup:=by
 induction n with
 | zero=>unfold sH;split<;>simp
 | succ n ih =>
  unfold sH
  rw [List.Nodup,List.pairwise_flatMap]
  refine ⟨fun v _=>TZ v,ih.imp ?_⟩
  intro a b hab x hx y hy e
  subst e
  simp only [ext,List.mem_filter,List.mem_map] at hx hy
  obtain ⟨⟨s,_,e1⟩,_⟩:=hx
  obtain ⟨⟨s',_,e2⟩,_⟩:=hy
  exact hab (List.append_inj' (e1.trans e2.symm) rfl).1
theorem RY (hk:Eh al) {n m:Nat} (h:sH fin al w n=[]) (hm:n<=m):sH fin al w m=[]:=by
 induction m with
 | zero => obtain rfl : n = 0 := by omega
           exact h
 | succ m ih =>
  by_cases e:n=m+1
  ·rw [<- e];exact h
  ·unfold sH;rw [ih (by omega)];rfl
theorem BX (hk:Eh al) {n:Nat} {v:List Int}:v∈upto fin al w n <-> Out fin al w v/\v.length<n:=by
 induction n with
 | zero=>simp [upto]
 | succ n ih =>
  simp only [upto,outs,List.mem_append,ih,List.mem_filter,oK hk,decide_eq_true_eq]
  constructor
  ·rintro (⟨h,hl⟩|⟨⟨_,hl⟩,h⟩)
   ·exact ⟨h,by omega⟩
   ·exact ⟨h,by omega⟩
  ·rintro ⟨h,hl⟩
   by_cases e:v.length<n
   ·exact .inl ⟨h,e⟩
   ·exact .inr ⟨⟨h.beg,by omega⟩,h⟩
theorem Qe (hk:Eh al) (n:Nat):(upto fin al w n).Nodup:=by
 induction n with
 | zero=>simp [upto]
 | succ n ih =>
  simp only [upto]
  rw [List.nodup_append]
  refine ⟨ih,List.Pairwise.filter _ (JF n),fun x hx y hy e=>?_⟩
  subst e
  have h1:=((BX hk).1 hx).2
  have h2:=((oK hk).1 (List.mem_filter.1 hy).1).2
  omega
theorem Ap (hk:Eh al) {n m:Nat} (h:sH fin al w n=[]) (hm:n<=m):upto fin al w m=upto fin al w n:=by
 induction m with
 | zero => obtain rfl : n = 0 := by omega
           rfl
 | succ m ih =>
  by_cases e:n=m+1
  ·rw [e]
  ·rw [upto,ih (by omega),RY hk h (by omega)];simp [outs]
theorem Lst.uniq (hk:Eh al) {most:Int} {l l':List (List Int)} (h:Lst fin al w most l) (h':Lst fin al w most l'):l=l':=by
 obtain ⟨n,h1,rfl,_⟩:=h
 obtain ⟨m,h2,rfl,_⟩:=h'
 rcases Nat.le_total n m with h|h
 ·rw [Ap hk h1 h]
 ·rw [Ap hk h2 h]
theorem Lst.mem (hk:Eh al) {most:Int} {l:List (List Int)} (h:Lst fin al w most l) {v:List Int}:v∈l <-> Out fin al w v:=by
 obtain ⟨n,h1,rfl,_⟩:=h
 rw [BX hk]
 refine ⟨fun h=>h.1,fun h=>⟨h,?_⟩⟩
 rcases Nat.lt_or_ge v.length n with h2|h2
 ·exact h2
 ·have:=RY hk h1 h2
  have h3:=(oK (n:=v.length) hk).2 ⟨h.beg,rfl⟩
  rw [this] at h3;cases h3
theorem fB {α:Type} [DecidableEq α]:∀ {l m:List α},l.Nodup->(∀x∈l,x∈m)->l.length<=m.length
 | [],m,_,_=>Nat.zero_le _
 | a::l,m,hn,hs=>by
  have ha:=hs a (by simp)
  have:=fB (l:=l) (m:=m.erase a) (List.nodup_cons.1 hn).2 (fun x hx=>by
   have hne:x≠a:=fun e=>(List.nodup_cons.1 hn).1 (e▸hx)
   exact (List.mem_erase_of_ne hne).2 (hs x (by simp [hx])))
  have hl:=List.length_erase_of_mem ha
  have:0<m.length:=List.length_pos_of_mem ha
  simp only [List.length_cons]
  omega
theorem aaZ (hk:Eh al) {d:Nat} {most:Int} {l:List (List Int)} (h:Lst fin al w most l):((sH fin al w d).length:Int)<=most:=by
 classical
 have hm:∀v,v∈l <-> Out fin al w v:=fun v=>h.mem hk
 obtain ⟨n,h1,rfl,h2⟩:=h
 have hpick:∀v∈sH fin al w d,∃u,Out fin al w (v++u):=fun v hv=>((oK hk).1 hv).1.out
 let g:List Int->List Int:=fun v=>if h:∃u,Out fin al w (v++u) then v++h.choose else v
 have hg:∀v∈sH fin al w d,Out fin al w (g v)/\(g v).take d=v:=fun v hv=>by
  have h3:=hpick v hv
  simp only [g,dif_pos h3]
  exact ⟨h3.choose_spec,by rw [<- ((oK hk).1 hv).2];simp⟩
 have h4:((sH fin al w d).map g).Nodup:=by
  rw [List.Nodup,List.pairwise_map]
  refine List.Pairwise.imp_of_mem ?_ (JF d)
  intro a b ha hb hab e
  exact hab (by rw [<- (hg a ha).2,<- (hg b hb).2,e])
 have h5:=fB h4 (m:=upto fin al w n) (fun x hx=>by
  obtain ⟨v,hv,rfl⟩:=List.mem_map.1 hx
  exact (hm _).2 (hg v hv).1)
 simp only [List.length_map] at h5
 omega
theorem Yl (hk:Eh al) {d:Nat} {most:Int} {l:List (List Int)} (h:Lst fin al w most l):((upto fin al w d).length:Int)<=most:=by
 classical
 have hm:∀v,v∈l <-> Out fin al w v:=fun v=>h.mem hk
 obtain ⟨n,h1,rfl,h2⟩:=h
 have:=fB (Qe hk d) (m:=upto fin al w n) (fun x hx=>(hm _).2 ((BX hk).1 hx).1)
 omega
def Can (fin:List Bool) (al:List A) (w:List Int):Nat->Nd->Prop
 | 0,x=>Good fin al w x
 | n+1,x=>∃y z s,Cl fin al w (fun u=>u=x/\Good fin al w x) y/\Mv al w y s z/\s ≠ -1/\Can fin al w n z
theorem Can.good {n:Nat} {x:Nd} (h:Can fin al w n x):Good fin al w x:=by
 cases n with
 | zero=>exact h
 | succ n =>
  obtain ⟨y,z,s,h1,-⟩:=h
  induction h1 with
  | on h=>exact h.2
  | eps _ _ _ ih=>exact ih
theorem Can.less {n:Nat}:∀ {x:Nd},Can fin al w (n+1) x->Can fin al w n x:=by
 induction n with
 | zero=>intro x h;exact Can.good h
 | succ n ih=>intro x h;obtain ⟨y,z,s,h1,h2,h3,h4⟩:=h;exact ⟨y,z,s,h1,h2,h3,ih h4⟩
theorem Can.le {n m:Nat} (hm:m<=n) {x:Nd} (h:Can fin al w n x):Can fin al w m x:=by
 induction n with
 | zero => obtain rfl : m = 0 := by omega
           exact h
 | succ n ih =>
  by_cases e:m=n+1
  ·rw [e];exact h
  ·exact ih (by omega) h.less
theorem Can.stable {n:Nat} (h:∀x,Can fin al w n x->Can fin al w (n+1) x):∀m x,Can fin al w n x->Can fin al w m x:=by
 have step:∀k x,Can fin al w (n+k) x->Can fin al w (n+k+1) x:=by
  intro k
  induction k with
  | zero=>exact h
  | succ k ih=>intro x hx;obtain ⟨y,z,s,h1,h2,h3,h4⟩:=hx;exact ⟨y,z,s,h1,h2,h3,ih z h4⟩
 have up:∀k x,Can fin al w n x->Can fin al w (n+k) x:=by
  intro k
  induction k with
  | zero=>exact fun _ h=>h
  | succ k ih=>exact fun x hx=>step k x (ih x hx)
 intro m x hx
 exact (up m x hx).le (by omega)
open Classical in
theorem V7 (gl:List Nd) (hgl:∀x,Good fin al w x->x∈gl):∃n,n<=gl.length/\∀x,Can fin al w n x->Can fin al w (n+1) x:=by
 have cnt:∀n,(∀m,m<n->∃x,Can fin al w m x/\¬ Can fin al w (m+1) x)->(gl.filter fun x=>decide (Can fin al w n x)).length+n<=gl.length:=by
  intro n
  induction n with
  | zero=>intro _;simpa using List.length_filter_le _ _
  | succ n ih =>
   intro h
   have h1:=ih fun m hm=>h m (by omega)
   obtain ⟨x,hx,hx'⟩:=h n (by omega)
   have:(gl.filter fun x=>decide (Can fin al w (n+1) x)).length<(gl.filter fun x=>decide (Can fin al w n x)).length:=by
    have hsub:(gl.filter fun x=>decide (Can fin al w (n+1) x))=(gl.filter fun x=>decide (Can fin al w n x)).filter fun x=>decide (Can fin al w (n+1) x):=by
     rw [List.filter_filter]
     apply List.filter_congr
     intro y _
     by_cases hy:Can fin al w (n+1) y
     ·simp [hy,hy.less]
     ·simp [hy]
    rw [hsub]
    have hmem:x∈gl.filter fun x=>decide (Can fin al w n x):=List.mem_filter.2 ⟨hgl x hx.good,by simpa using hx⟩
    generalize gl.filter (fun x=>decide (Can fin al w n x))=L at hmem
    rcases Nat.lt_or_ge (L.filter fun x=>decide (Can fin al w (n+1) x)).length L.length with h|h
    ·exact h
    ·have:=List.length_filter_le (fun x=>decide (Can fin al w (n+1) x)) L
     have e:=List.length_filter_eq_length_iff.1 (show (L.filter fun x=>decide (Can fin al w (n+1) x)).length=L.length by omega) x hmem
     exact absurd (by simpa using e) hx'
   omega
 rcases Classical.em (∃n,n<=gl.length/\∀x,Can fin al w n x->Can fin al w (n+1) x) with h|h
 ·exact h
 ·exfalso
  have:=cnt (gl.length+1) fun m hm=>by
   rcases Classical.em (∃x,Can fin al w m x/\¬ Can fin al w (m+1) x) with h2|h2
   ·exact h2
   ·exact absurd ⟨m,by omega,fun x hx=>Classical.byContradiction fun hn=>h2 ⟨x,hx,hn⟩⟩ h
  omega
theorem Cl.trans {S:Nd->Prop} {x y:Nd} (h:Cl fin al w (fun u=>u=x/\Good fin al w x) y) (hx:Cl fin al w S x):Cl fin al w S y:=by
 induction h with
 | on h=>rw [h.1];exact hx
 | eps _ hm hg ih=>exact .eps ih hm hg
theorem At.cl {v:List Int} {x y:Nd} (hx:At fin al w v x) (h:Cl fin al w (fun u=>u=x/\Good fin al w x) y):At fin al w v y:=by
 induction h with
 | on h=>rw [h.1];exact hx
 | eps _ hm hg ih=>exact .eps ih hm hg
theorem PG {n:Nat}:∀ {v:List Int} {x:Nd},At fin al w v x->Can fin al w n x->∃u,u.length=n/\Beg fin al w (v++u):=by
 induction n with
 | zero=>intro v x h _;exact ⟨[],rfl,x,by simpa using h⟩
 | succ n ih =>
  intro v x h hc
  obtain ⟨y,z,s,h1,h2,h3,h4⟩:=hc
  obtain ⟨u,hu,hb⟩:=ih ((h.cl h1).sym h2 h3 h4.good) h4
  exact ⟨s::u,by simp [hu],by simpa using hb⟩
theorem Rq {x:Nd} (h:Good fin al w x):Cl fin al w (fun u=>u=x/\Good fin al w x) x:=.on ⟨rfl,h⟩
theorem Yi {n:Nat} {x y:Nd} (hx:Good fin al w x) (hm:Mv al w x (-1) y) (hc:Can fin al w n y):Can fin al w n x:=by
 have hg:=hc.good
 cases n with
 | zero=>exact hx
 | succ n =>
  obtain ⟨y',z,s,h1,h2,h3,h4⟩:=hc
  exact ⟨y',z,s,h1.trans (.eps (Rq hx) hm hg),h2,h3,h4⟩
theorem UI {v:List Int} {y:Nd} (h:At fin al w v y):∀n,Can fin al w n y->Can fin al w (v.length+n) (0,0):=by
 induction h with
 | nil _=>intro n hc;simpa using hc
 | eps hx hm _ ih=>intro n hc;exact ih n (Yi hx.good hm hc)
 | @sym v x y s hx hm hs _ ih =>
  intro n hc
  have:=ih (n+1) ⟨x,y,s,Rq hx.good,hm,hs,hc⟩
  have e:(v++[s]).length+n=v.length+(n+1):=by simp;omega
  rw [e];exact this
theorem QL (hk:Eh al) {gl:List Nd} (hgl:∀x,Good fin al w x->x∈gl) {d:Nat} (hd:gl.length<d) (hl:sH fin al w d≠[]) {most:Int} {l:List (List Int)}:¬ Lst fin al w most l:=by
 intro h
 obtain ⟨n,h1,_,_⟩:=h
 obtain ⟨v,hv⟩:=List.exists_mem_of_ne_nil _ hl
 obtain ⟨⟨y,hy⟩,hvl⟩:=(oK hk).1 hv
 have hc:=UI hy 0 hy.good
 obtain ⟨n0,h2,h3⟩:=V7 gl hgl
 have hc0:Can fin al w n0 (0,0):=hc.le (by omega)
 obtain ⟨u,hu,hb⟩:=PG (v:=[]) (x:=(0,0)) (.nil hc0.good) (Can.stable h3 n (0,0) hc0)
 have:=(oK (n:=n) hk).2 ⟨hb,by simpa using hu⟩
 rw [h1] at this
 cases this
end
end Go.FS
