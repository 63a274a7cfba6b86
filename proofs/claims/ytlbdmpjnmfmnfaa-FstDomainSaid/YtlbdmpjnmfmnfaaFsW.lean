import Derived.Test.YtlbdmpjnmfmnfaaFsB
import Derived.Test.YtlbdmpjnmfmnfaaHlRo
import Derived.Test.YtlbdmpjnmfmnfaaHlW
import Derived.Test.YtlbdmpjnmfmnfaaFsP
set_option linter.unusedSimpArgs false
set_option linter.unusedVariables false
set_option maxHeartbeats 4000000
section
namespace Go.Proofs.Ytlbdmpjnmfmnfaa
open Go.RowKit Go.HL Go.FS
theorem lF {fin:List Bool} {al:List A} (h:okF fin al=true):1<=fin.length/\fin.length<=2048/\al.length<=8192:=by
 simp only [okF,aZ,decide_eq_true_eq] at h;exact h.1
theorem gu {fin:List Bool} {al:List A} (h:okF fin al=true) {a:A} (ha:a∈al):0<=a.f/\a.f<fin.length/\0<=a.t/\a.t<fin.length /\ -1<=a.i/\a.i<64 /\ -1<=a.o/\a.o<64:=by
 simp only [okF,aZ,zl016] at h;exact okA_iff.1 (h.2 a ha)
theorem lq {l:List A} {k:Nat} (h:k<l.length):l.getD k default∈l:=by
 rw [bf,bn h];exact iD h
theorem bY {α:Type} [Inhabited α] {l:List α} {k:Nat} (h:k<l.length):l.take (k+1)=l.take k++[l.getD k default]:=by
 rw [rG];simp [h]
theorem J6 (fin:List Bool) (al:List A) (hv:okF fin al=true):HT Try.prog 64 [.agg (dR fin al)] (fun r=>r=.osl 1 fin.length (dV (aT (·.f) fin.length al))):=by
 obtain ⟨h1,h2,h3⟩:=lF hv
 refine HT.of rfl aeG (bF rfl) ?_
 unfold c64
 simp only [ay,Nat.reduceAdd,dR,fU]
 refine zF ⟨?_⟩
 rw [<- Gu (·.f)]
 refine aF [1,3,11,12,13] (fun k:Nat=>k<=al.length)
  (fun k=>⟨[(1,.pref 0 [] 0),(3,.ref 1 [] 1 0 fin.length),(11,.sl al.length (recs aC al)),(12,.int .i64 al.length),(13,.int .i64 k)],[(0,.optr [.sl fin.length (HL.bools fin),.sl al.length (recs aC al)]),(1,.osl 1 fin.length (dV (aT (·.f) fin.length (al.take k))))],2⟩)
  (fun k=>al.length - k) 0 (by omega) rfl ?_
 intro k hk
 by_cases hkl:k<al.length
 ·have ha:=gu hv (lq hkl)
  have hlen:=iw (·.f) fin.length (al.take k)
  have hrow:((aT (·.f) fin.length (al.take k)).getD (al.getD k default).f.toNat []).length<=8192:=sU He (by simp;omega)
  have hst:=E8 (p:=(·.f)) (n:=fin.length) (l:=al.take k) (a:=al.getD k default) (j:=(al.getD k default).f.toNat) (by omega)
  rw [<- bY hkl] at hst
  have hro:=IK (aT (·.f) fin.length (al.take k)) (al.getD k default).f.toNat ((aT (·.f) fin.length (al.take k)).getD (al.getD k default).f.toNat []++[al.getD k default]) .dead (n:=((aT (·.f) fin.length (al.take k)).getD (al.getD k default).f.toNat []).length+1) (by simp)
  rw [hst] at hro
  refine zF ⟨?_⟩
  refine aP 50 [1,3,5,11,12,13] ⟨[(1,.pref 0 [] 0),(3,.ref 1 [] 1 0 fin.length),(5,.ptr (aC (al.getD k default)) 0),(11,.sl al.length (recs aC al)),(12,.int .i64 al.length),(13,.int .i64 k)],[(0,.optr [.sl fin.length (HL.bools fin),.sl al.length (recs aC al)]),(1,.osl 1 fin.length (dV (aT (·.f) fin.length (al.take k))))],2⟩ rfl ?_
  unfold aaE
  refine jR [5] [3] aA aA (fun _ _ _=>False) (by simp [au,HV.deep,aQ,aC]) (by simp [au,HV.deep,aQ]) ?_
  simp only [aC]
  refine fP @hro ⟨?_⟩
  exact aV [1,3,11,12,13] (k+1) hkl (by omega) rfl
 ·obtain rfl:k=al.length:=by omega
  rw [ig]
  refine zF ⟨?_⟩
  refine ae ?_
  rfl
def wo (fin:List Bool) (k:Nat):List Int:=((List.range k).filter fun i=>fin.getD i false).map fun i:Nat=>(i:Int)
theorem Tm (fin:List Bool) (k:Nat):wo fin (k+1)=if fin.getD k false=true then wo fin k++[(k:Int)] else wo fin k:=by
 unfold wo
 rw [JE,ER]
 cases h:fin.getD k false<;>rw [bf] at h<;>simp [h]
theorem Gw (fin:List Bool) (k:Nat):(wo fin k).length<=k:=by
 unfold wo
 rw [List.length_map]
 have:=List.length_filter_le (fun i=>fin.getD i false) (List.range k)
 simpa using this
theorem mem_finL {fin:List Bool} {p:Int}:p∈wo fin fin.length <-> isFin fin p:=by
 unfold wo isFin
 simp only [zl020,zl058,zl032]
 constructor
 ·rintro ⟨i,⟨h1,h2⟩,rfl⟩;exact ⟨by omega,by simpa using h2⟩
 ·rintro ⟨h1,h2⟩
  refine ⟨p.toNat,⟨?_,h2⟩,by omega⟩
  rcases dX p.toNat fin.length with h|h
  ·exact h
  ·simp [bf,qo h] at h2
theorem IL (fin:List Bool) (hf:fin.length<=100000):HT Try.prog 70 [.sl fin.length (HL.bools fin)] (fun r=>r=.osl 1 (wo fin fin.length).length (HL.ints (wo fin fin.length))):=by
 refine HT.of rfl aet (bF rfl) ?_
 unfold c70
 simp only [ay,Nat.reduceAdd]
 refine zF ⟨?_⟩
 refine aF [3,6,7,8] (fun s:Nat×Nat=>s.1<=fin.length/\(wo fin s.1).length=s.2)
  (fun s=>⟨[(3,.ref 0 [] 1 0 s.2),(6,.sl fin.length (HL.bools fin)),(7,.int .i64 fin.length),(8,.int .i64 s.1)],[(0,.osl 1 s.2 (HL.ints (wo fin s.1)))],1⟩)
  (fun s=>fin.length - s.1) (0,0) ⟨by simp,rfl⟩ rfl ?_
 rintro ⟨k,m⟩ ⟨hk,hm⟩
 simp only at hk hm ⊢
 by_cases hkl:k<fin.length
 ·have hst:=Tm fin k
  have hfl:=Gw fin k
  cases hb:fin.getD k false with
  | true =>
   rw [if_pos hb] at hst
   refine fP @hb ⟨?_⟩
   exact aV [3,6,7,8] (k+1,m+1) ⟨hkl,by rw [hst];simp [hm]⟩ iQ (by simp only [hst];rfl)
  | false =>
   rw [if_neg (by rw [hb];simp)] at hst
   refine fP @hb ⟨?_⟩
   exact aV [3,6,7,8] (k+1,m) ⟨hkl,by rw [hst];exact hm⟩ iQ (by simp only [hst];rfl)
 ·obtain rfl:k=fin.length:=by omega
  subst hm
  refine zF ⟨?_⟩
  refine ae ?_
  rfl
def kQ (w:List Int) (G:List Nd) (a:A) (at_:Int):Nd×Bool :=
 if a.i = -1 then ((a.t,at_),decide ((a.t,at_)∈G))
 else if at_<w.length/\w.getD at_.toNat 0=a.i then ((a.t,at_+1),decide ((a.t,at_+1)∈G)) else ((0,0),false)
def runT (w:List Int) (ll:List (List A)) (G:List Nd):List HV:=[.sl w.length (HL.ints w),.sl ll.length (dH ll),.rmap ⟨.ints 2,none⟩ (G.map pk) (qh G.length)]
def pT (x:Nd):HV:=.agg (pC x)
theorem pX (l:List Int):aQ (HL.ints l)=[]:=by
 induction l with
 | nil=>rfl
 | cons x l ih=>simpa [HL.ints,aQ,HV.deep] using ih
theorem D9 {α:Type} {g:α->List HV} (h:∀x,aQ (g x)=[]) (l:List α):aQ (recs g l)=[]:=by
 induction l with
 | nil=>rfl
 | cons x l ih=>simp only [recs,List.flatMap_cons,xC,h,List.nil_append] at ih ⊢;exact ih
theorem Gp (ll:List (List A)):aQ (dH ll)=[]:=by
 induction ll with
 | nil=>rfl
 | cons l ll ih=>simp only [dH,dP,aQ,fU,HV.deep,D9 (g:=aC) (fun _=>rfl),List.nil_append] at ih ⊢;exact ih
theorem Ns (n:Nat):aQ (qh n)=[]:=by
 induction n with
 | zero=>rfl
 | succ n ih=>simpa [qh,Hr,aQ,HV.deep] using ih
theorem Q9 (w:List Int) (ll:List (List A)) (G:List Nd) (a:A) (at_:Int) (h0:0<=at_) (hw:w.length<=1024) (hat:at_<=w.length):HT Try.prog 99 [.ptr (runT w ll G) 0,.agg (aC a),.int .i64 at_] (fun r=>r=.tup [pT (kQ w G a at_).1,.bool (kQ w G a at_).2]):=by
 refine HT.ofC rfl afc [6,7] rfl (bF rfl) ?_
 unfold c99
 simp only [ay,Nat.reduceAdd,runT,aC]
 by_cases hi:a.i = -1
 ·have hn:kQ w G a at_=((a.t,at_),decide ((a.t,at_)∈G)):=by simp [kQ,hi]
  refine zF ⟨?_⟩
  refine aP 0 [0,2,4,6] ⟨[(0,.ptr [.sl w.length (HL.ints w),.sl ll.length (dH ll),.rmap ⟨.ints 2,none⟩ (G.map pk) (qh G.length)] 0),(2,.int .i64 at_),(4,.ptr (aC a) 0),(6,.pref 0 [] 0)],[(0,.optr [.int .i64 0,.int .i64 0])],1⟩ rfl ?_
  refine jR [0,2,4] [6] aA aA (fun _ _ _=>False) (by simp [au,HV.deep,aQ,aC,pX,Gp,Ns]) (by simp [au,HV.deep,aQ]) ?_
  simp only [aC]
  refine zF ⟨?_⟩
  refine ae ?_
  exact ⟨_,_,rfl,rfl,by rw [hn];rfl⟩
 ·by_cases h1:at_<w.length
  ·by_cases h2:w.getD at_.toNat 0=a.i
   ·have hn:kQ w G a at_=((a.t,at_+1),decide ((a.t,at_+1)∈G)):=by simp only [kQ,if_neg hi,if_pos (show at_<w.length/\w.getD at_.toNat 0=a.i from ⟨h1,h2⟩)]
    refine zF ⟨?_⟩
    refine bJ aA aA (fun _ _ _=>False) ?_
    refine zF ⟨?_⟩
    refine aP 0 [0,2,4,6] ⟨[(0,.ptr [.sl w.length (HL.ints w),.sl ll.length (dH ll),.rmap ⟨.ints 2,none⟩ (G.map pk) (qh G.length)] 0),(2,.int .i64 at_),(4,.ptr (aC a) 0),(6,.pref 0 [] 0)],[(0,.optr [.int .i64 0,.int .i64 0])],1⟩ rfl ?_
    refine jR [0,2,4] [6] aA aA (fun _ _ _=>False) (by simp [au,HV.deep,aQ,aC,pX,Gp,Ns]) (by simp [au,HV.deep,aQ]) ?_
    simp only [aC]
    refine zF ⟨?_⟩
    refine ae ?_
    exact ⟨_,_,rfl,rfl,by rw [hn];rfl⟩
   ·have hn:kQ w G a at_=((0,0),false):=by simp only [kQ,if_neg hi,if_neg (show ¬ (at_<w.length/\w.getD at_.toNat 0=a.i) from fun h=>h2 h.2)]
    refine zF ⟨?_⟩
    refine bJ aA aA (fun _ _ _=>False) ?_
    refine zF ⟨?_⟩
    refine ae ?_
    exact ⟨_,_,rfl,rfl,by rw [hn];rfl⟩
  ·have hn:kQ w G a at_=((0,0),false):=by simp only [kQ,if_neg hi,if_neg (show ¬ (at_<w.length/\w.getD at_.toNat 0=a.i) from fun h=>h1 h.1)]
   refine zF ⟨?_⟩
   refine bJ aA aA (fun _ _ _=>False) ?_
   refine zF ⟨?_⟩
   refine ae ?_
   exact ⟨_,_,rfl,rfl,by rw [hn];rfl⟩
end Go.Proofs.Ytlbdmpjnmfmnfaa
end
section
namespace Go.FS
section
variable {fin:List Bool} {al:List A} {w:List Int}
def ny (w:List Int) (y:Nd) (a:A):Option Nd :=
 if a.i = -1 then some (a.f,y.2) else if 0<y.2/\w.getD (y.2 - 1).toNat 0=a.i then some (a.f,y.2 - 1) else none
def U8 (n:Nat) (w:List Int) (x:Nd):Prop:=0<=x.1/\x.1<n/\0<=x.2/\x.2<=w.length
theorem Qz {n:Nat} {x y:Nd} (hy:U8 n w y):(∃o,Mv al w x o y) <-> ∃a∈al,a.t=y.1/\ny w y a=some x:=by
 obtain ⟨x1,x2⟩:=x
 obtain ⟨y1,y2⟩:=y
 obtain ⟨_,_,g0,g1⟩:=hy
 simp only at g0 g1
 constructor
 ·rintro ⟨o,h⟩
  cases h with
  | eps q1 h2 h3=>exact ⟨_,q1,rfl,by simp only [ny,if_pos h3,h2]⟩
  | sym q1 h2 h3 h4 h5 h6 =>
   refine ⟨_,q1,rfl,?_⟩
   simp only at h2 h4 h5 h6 ⊢
   simp only [ny,if_neg h3]
   rw [if_pos ⟨by omega,by rw [show x2+1 - 1=x2 by omega];exact h6⟩,h2]
   simp
 ·rintro ⟨a,h2,rfl,h3⟩
  unfold ny at h3
  split at h3
  ·rename_i hi
   simp only [Option.some.injEq,Prod.mk.injEq] at h3
   obtain ⟨h4,h5⟩:=h3
   subst h4 h5
   exact ⟨a.o,.eps h2 rfl hi⟩
  ·rename_i hi
   split at h3
   ·rename_i hc
    simp only [Option.some.injEq,Prod.mk.injEq] at h3
    obtain ⟨h4,h5⟩:=h3
    simp only at hc
    subst h4 h5
    have:Mv al w (a.f,y2 - 1) a.o (a.t,(y2 - 1)+1):=.sym (x:=(a.f,y2 - 1)) h2 rfl hi (by simp only;omega) (by simp only;omega) hc.2
    rw [show y2 - 1+1=y2 by omega] at this
    exact ⟨a.o,this⟩
   ·cases h3
structure SI (fin:List Bool) (al:List A) (w:List Int) (G td:List Nd):Prop where
 nodup:G.Nodup
 good:∀x∈G++td,Good fin al w x/\U8 fin.length w x
 fin:∀p,isFin fin p->(p,(w.length:Int))∈G++td
 pre:∀y∈G,∀a∈al,a.t=y.1->∀x,ny w y a=some x->x∈G++td
theorem GN {p:Int} (h:isFin fin p):p<fin.length:=by
 obtain ⟨h1,h2⟩:=h
 rcases Nat.lt_or_ge p.toNat fin.length with h|h
 ·omega
 ·simp [List.getD_eq_getElem?_getD,List.getElem?_eq_none h] at h2
theorem SI.start {fl:List Int} (hl:∀p,p∈fl <-> isFin fin p):SI fin al w [] (fl.map fun p=>(p,(w.length:Int))):=by
 refine ⟨by simp,fun x hx=>?_,fun p hp=>?_,fun y hy=>by simp at hy⟩
 ·simp only [List.nil_append,List.mem_map] at hx
  obtain ⟨p,hp,rfl⟩:=hx
  have hf:=(hl p).1 hp
  exact ⟨.fin hf,hf.1,GN hf,by simp,by simp⟩
 ·simp only [List.nil_append,List.mem_map]
  exact ⟨p,(hl p).2 hp,rfl⟩
theorem SI.skip {G td:List Nd} {v:Nd} (h:SI fin al w G (td++[v])) (hv:v∈G):SI fin al w G td:=by
 have low:∀x,x∈G++(td++[v])->x∈G++td:=fun x hx=>by
  simp only [List.mem_append,List.mem_singleton] at hx ⊢
  rcases hx with h|h|rfl
  ·exact .inl h
  ·exact .inr h
  ·exact .inl hv
 refine ⟨h.nodup,fun x hx=>h.good x ?_,fun p hp=>low _ (h.fin p hp),fun y hy a ha hat x hx=>low _ (h.pre y hy a ha hat x hx)⟩
 simp only [List.mem_append] at hx ⊢
 rcases hx with h|h
 ·exact .inl h
 ·exact .inr (.inl h)
theorem SI.step (hk:∀a∈al,0<=a.f/\a.f<fin.length) {G td:List Nd} {v:Nd} (h:SI fin al w G (td++[v])) (hv:v ∉ G):SI fin al w (G++[v]) (td++(al.filter fun a=>a.t==v.1).filterMap (ny w v)):=by
 have hg:=h.good v (by simp)
 refine ⟨?_,fun x hx=>?_,fun p hp=>?_,fun y hy a ha hat x hx=>?_⟩
 ·rw [List.nodup_append]
  exact ⟨h.nodup,by simp,fun x hx y hy e=>by simp at hy;subst hy;exact hv (e▸hx)⟩
 ·simp only [List.mem_append,List.mem_singleton,List.mem_filterMap,List.mem_filter,beq_iff_eq] at hx
  rcases hx with (hx|rfl)|hx|⟨a,⟨ha,hat⟩,hx⟩
  ·exact h.good x (by simp [hx])
  ·exact hg
  ·exact h.good x (by simp [hx])
  ·obtain ⟨o,hm⟩:=(Qz hg.2).2 ⟨a,ha,hat,hx⟩
   refine ⟨.mv hm hg.1,?_⟩
   obtain ⟨_,_,g1,g2⟩:=hg.2
   have:=hk a ha
   unfold ny at hx
   split at hx
   ·cases hx;exact ⟨this.1,this.2,g1,g2⟩
   ·split at hx
    ·cases hx;exact ⟨this.1,this.2,by simp only;omega,by simp only;omega⟩
    ·cases hx
 ·have:=h.fin p hp
  simp only [List.mem_append,List.mem_singleton] at this ⊢
  rcases this with h|h|h
  ·exact .inl (.inl h)
  ·exact .inr (.inl h)
  ·exact .inl (.inr h)
 ·rcases List.mem_append.1 hy with hy|hy
  ·have:=h.pre y hy a ha hat x hx
   simp only [List.mem_append,List.mem_singleton] at this ⊢
   rcases this with h|h|h
   ·exact .inl (.inl h)
   ·exact .inr (.inl h)
   ·exact .inl (.inr h)
  ·simp only [List.mem_singleton] at hy
   subst hy
   simp only [List.mem_append,List.mem_filterMap,List.mem_filter,beq_iff_eq]
   exact .inr (.inr ⟨a,⟨ha,hat⟩,hx⟩)
theorem SI.done {G:List Nd} (h:SI fin al w G []) (x:Nd):x∈G <-> Good fin al w x:=by
 constructor
 ·intro hx;exact (h.good x (by simpa using hx)).1
 ·intro hg
  induction hg with
  | fin hf=>simpa using h.fin _ hf
  | @mv x y o hm _ ih =>
   obtain ⟨a,ha,hat,hp⟩:=(Qz (h.good y (by simpa using ih)).2).1 ⟨o,hm⟩
   simpa using h.pre y ih a ha hat x hp
def nodes (n:Nat) (m:Nat):List Nd:=(List.range n).flatMap fun i:Nat=>(List.range (m+1)).map fun j:Nat=>((i:Int),(j:Int))
theorem Jj (n m:Nat):(nodes n m).length=n*(m+1):=by
 unfold nodes
 rw [List.length_flatMap]
 simp only [List.length_map,List.length_range,List.map_const',List.sum_replicate_nat]
theorem Jw {n:Nat} {w:List Int} {x:Nd} (h:U8 n w x):x∈nodes n w.length:=by
 obtain ⟨h1,h2,h3,h4⟩:=h
 simp only [nodes,List.mem_flatMap,List.mem_map,List.mem_range]
 exact ⟨x.1.toNat,by omega,x.2.toNat,by omega,by ext<;>simp<;>omega⟩
theorem BD {n:Nat} {w:List Int} {G:List Nd} (h:G.Nodup) (hg:∀x∈G,U8 n w x):G.length<=n*(w.length+1):=by
 have:=fB h (m:=nodes n w.length) fun x hx=>Jw (hg x hx)
 rwa [Jj] at this
theorem Df (hk:∀a∈al,0<=a.f/\a.f<fin.length) {x:Nd} (h:Good fin al w x):U8 fin.length w x:=by
 induction h with
 | fin hf=>exact ⟨hf.1,GN hf,by simp,by simp⟩
 | mv hm _ ih =>
  obtain ⟨_,_,g1,g2⟩:=ih
  cases hm with
  | eps h1 h2 _=>have:=hk _ h1;exact ⟨by omega,by omega,g1,g2⟩
  | sym h1 h2 _ h4 h5 _=>have:=hk _ h1;exact ⟨by omega,by omega,h4,by omega⟩
end
end Go.FS
end
section
namespace Go.Proofs.Ytlbdmpjnmfmnfaa
open Go.RowKit Go.HL Go.FS
section
variable {fin:List Bool} {al:List A} {w:List Int} {G:List Nd}
theorem CP (hG:∀x,x∈G <-> FS.Good fin al w x) {x y:Nd} {o:Int} (h0:0<=x.2):(Mv al w x o y/\FS.Good fin al w y) <-> ∃a∈al,a.f=x.1/\a.o=o/\kQ w G a x.2=(y,true):=by
 constructor
 ·rintro ⟨h,hg⟩
  rw [<- hG] at hg
  cases h with
  | @eps a _ h1 h2 h3=>exact ⟨a,h1,h2,rfl,by simp only [kQ,if_pos h3,decide_eq_true hg]⟩
  | @sym a _ h1 h2 h3 h4 h5 h6=>exact ⟨a,h1,h2,rfl,by simp only [kQ,if_neg h3,if_pos (show x.2<w.length/\w.getD x.2.toNat 0=a.i from ⟨h5,h6⟩),decide_eq_true hg]⟩
 ·rintro ⟨a,h1,h2,rfl,h3⟩
  unfold kQ at h3
  split at h3
  ·rename_i hi
   simp only [jg,decide_eq_true_eq] at h3
   obtain ⟨rfl,hg⟩:=h3
   exact ⟨.eps h1 h2 hi,(hG _).1 hg⟩
  ·rename_i hi
   split at h3
   ·rename_i hc
    simp only [jg,decide_eq_true_eq] at h3
    obtain ⟨rfl,hg⟩:=h3
    exact ⟨.sym h1 h2 hi h0 hc.1 hc.2,(hG _).1 hg⟩
   ·simp at h3
structure WI (fin:List Bool) (al:List A) (w:List Int) (S:List Nd) (i:Nat) (L M:List Nd):Prop where
 mem:∀x,x∈M <-> x∈L
 nd:M.Nodup
 len:L.length<=S.length+M.length
 sub:∀x∈L,Cl fin al w (·∈S) x
 on:∀x∈S,x∈L
 cl:∀j,j<i->∀y,Mv al w (L.getD j default) (-1) y->FS.Good fin al w y->y∈L
structure WJ (fin:List Bool) (al:List A) (w:List Int) (G S:List Nd) (i:Nat) (v:Nd) (R:List A) (k:Nat) (L M:List Nd):Prop where
 wi:WI fin al w S i L M
 lt:i<L.length
 at_:L.getD i default=v
 row:∀a∈R.take k,a.o = -1->∀y,kQ w G a v.2=(y,true)->y∈L
theorem WI.start {S M:List Nd} (h1:M.Nodup) (h2:∀x,x∈M <-> x∈S):WI fin al w S 0 S M :=
 ⟨h2,h1,Nat.le_add_right _ _,fun _ h=>.on h,fun _ h=>h,fun j hj=>by omega⟩
theorem WI.begin {S L M:List Nd} {i:Nat} {R:List A} (h:WI fin al w S i L M) (hi:i<L.length):WJ fin al w G S i (L.getD i default) R 0 L M:=⟨h,hi,rfl,by simp⟩
theorem WJ.skip {S L M:List Nd} {i k:Nat} {v:Nd} {R:List A} (h:WJ fin al w G S i v R k L M) (hk:k<R.length) (hs:(R.getD k default).o = -1->∀y,kQ w G (R.getD k default) v.2=(y,true)->y∈L):WJ fin al w G S i v R (k+1) L M:=by
 refine ⟨h.wi,h.lt,h.at_,fun a ha=>?_⟩
 rw [bY hk] at ha
 rcases zl002.1 ha with ha|ha
 ·exact h.row a ha
 ·simp only [zl009] at ha;subst ha;exact hs
theorem I7 {L L':List Nd} {i:Nat} (h:i<L.length):(L++L').getD i default=L.getD i default:=by
 simp only [bf];rw [En h]
theorem WI.le {S L M:List Nd} {i:Nat} (h:WI fin al w S i L M) (hl:i<=L.length) {y:Nd} (hc:Cl fin al w (·∈S) y) (hn:y ∉ L):WI fin al w S i (L++[y]) (M++[y]):=by
 refine ⟨fun x=>by simp [h.mem x],?_,by have:=h.len;simp only [dQ,zO];omega,fun x hx=>?_,fun x hx=>by simp [h.on x hx],fun j hj z hm hg=>?_⟩
 ·rw [zl008]
  exact ⟨h.nd,by simp,fun a ha b hb e=>by simp at hb;subst hb;exact hn ((h.mem _).1 (e▸ha))⟩
 ·rcases zl002.1 hx with hx|hx
  ·exact h.sub x hx
  ·simp only [zl009] at hx;rw [hx];exact hc
 ·rw [I7 (by omega)] at hm
  simp [h.cl j hj z hm hg]
theorem WJ.add (hG:∀x,x∈G <-> FS.Good fin al w x) {S L M:List Nd} {i k:Nat} {v:Nd} {R:List A} (hR:R=al.filter fun a=>a.f==v.1) (h0:0<=v.2) (h:WJ fin al w G S i v R k L M) (hk:k<R.length) {y:Nd} (ho:(R.getD k default).o = -1) (hy:kQ w G (R.getD k default) v.2=(y,true)) (hn:y ∉ L):WJ fin al w G S i v R (k+1) (L++[y]) (M++[y]):=by
 have hmem:R.getD k default∈al/\(R.getD k default).f=v.1:=by
  have:=lq hk
  generalize R.getD k default=a at this
  rw [hR] at this
  simpa using this
 have hm:=(CP hG (x:=v) (y:=y) (o := -1) h0).2 ⟨_,hmem.1,hmem.2,ho,hy⟩
 have hv:v∈L:=by
  rw [<- h.at_,bf,bn h.lt];exact iD _
 refine ⟨h.wi.le (Nat.le_of_lt h.lt) (.eps (h.wi.sub v hv) hm.1 hm.2) hn,by have:=h.lt;simp;omega,by rw [I7 h.lt];exact h.at_,fun a ha hoa z hz=>?_⟩
 rw [bY hk] at ha
 rcases zl002.1 ha with ha|ha
 ·simp [h.row a ha hoa z hz]
 ·simp only [zl009] at ha
  subst ha
  rw [hy] at hz
  simp only [jg,and_true] at hz
  simp [hz]
theorem WJ.done (hG:∀x,x∈G <-> FS.Good fin al w x) {S L M:List Nd} {i:Nat} {v:Nd} {R:List A} (hR:R=al.filter fun a=>a.f==v.1) (h0:0<=v.2) (h:WJ fin al w G S i v R R.length L M):WI fin al w S (i+1) L M:=by
 refine ⟨h.wi.mem,h.wi.nd,h.wi.len,h.wi.sub,h.wi.on,fun j hj y hm hg=>?_⟩
 by_cases e:j=i
 ·subst e
  rw [h.at_] at hm
  obtain ⟨a,ha,hf,ho,hy⟩:=(CP hG (x:=v) (y:=y) (o := -1) h0).1 ⟨hm,hg⟩
  refine h.row a ?_ ho y hy
  rw [ig,hR]
  simp [ha,hf]
 ·exact h.wi.cl j (by omega) y hm hg
theorem WI.done {S L M:List Nd} {i:Nat} (h:WI fin al w S i L M) (hi:L.length<=i) (x:Nd):x∈L <-> Cl fin al w (·∈S) x:=by
 refine ⟨h.sub x,fun hc=>?_⟩
 induction hc with
 | on hs=>exact h.on _ hs
 | @eps y z _ hm hg ih =>
  obtain ⟨j,hj,he⟩:=uD ih
  refine h.cl j (by omega) z ?_ hg
  rw [bf,bn hj];simpa [he] using hm
theorem QO {S:Nd->Prop} (hS:∀x,S x->FS.Good fin al w x) {x:Nd} (h:Cl fin al w S x):FS.Good fin al w x:=by
 cases h with
 | on h=>exact hS _ h
 | eps _ _ h=>exact h
theorem WI.card (hG:∀x,x∈G <-> FS.Good fin al w x) {S L M:List Nd} {i:Nat} (h:WI fin al w S i L M) (hS:∀x∈S,FS.Good fin al w x):M.length<=G.length :=
 fB h.nd fun x hx=>(hG x).2 (QO hS (h.sub x ((h.mem x).1 hx)))
end
end Go.Proofs.Ytlbdmpjnmfmnfaa
end
