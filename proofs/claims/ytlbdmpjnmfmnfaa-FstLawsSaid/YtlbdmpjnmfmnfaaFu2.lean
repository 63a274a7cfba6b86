import Derived.Test.YtlbdmpjnmfmnfaaFsP
import Derived.Test.YtlbdmpjnmfmnfaaFsA
import Derived.Test.YtlbdmpjnmfmnfaaFtZ
section
set_option linter.unusedSimpArgs false
set_option linter.unusedVariables false
namespace Go.FS
open Go.HL
abbrev Stp:=Int×Int×Nd
def stA (two:List A) (v:Nd):List Stp:=two.flatMap fun b=>if b.i = -1 then [(-1,b.o,(v.1,b.t))] else []
def stB (a:A) (two:List A):List Stp:=two.flatMap fun b=>if b.i=a.o then [(a.i,b.o,(a.t,b.t))] else []
def y9 (a:A) (two:List A) (v:Nd):List Stp:=if a.o = -1 then [(a.i,-1,(a.t,v.2))] else stB a two
def OV (one two:List A) (v:Nd):List Stp:=stA two v++one.flatMap fun a=>y9 a two v
abbrev CS:=List Nd×List A
def qc {α:Type} [DecidableEq α] (l:List α) (a:α):Nat:=l.idxOf a
theorem xg {α:Type} [DecidableEq α] {l:List α} {a:α} (h:a∈l):qc l a<l.length:=List.idxOf_lt_length_of_mem h
theorem QP {α:Type} [DecidableEq α] {l:List α} {a:α} (h:a ∉ l):qc (l++[a]) a=l.length:=by
 unfold qc;rw [List.idxOf_append];simp [h]
def add1 (i:Int) (st:CS) (m:Stp):CS:=(ins m.2.2 st.1,st.2++[⟨i,m.1,m.2.1,(qc (ins m.2.2 st.1) m.2.2:Nat)⟩])
def ig (i:Int) (st:CS) (l:List Stp):CS:=l.foldl (add1 i) st
theorem wC {i:Int} {st:CS} {l m:List Stp}:ig i st (l++m)=ig i (ig i st l) m:=by simp [ig]
theorem yH {i:Int} {st:CS} {m:Stp}:ig i st [m]=add1 i st m:=rfl
def outA (p:Int) (l:List A):List A:=l.filter fun a=>a.f==p
def iH (al bl:List A) (v:Nd):List Stp:=OV (outA v.1 al) (outA v.2 bl) v
def EC (al bl:List A) (i:Nat) (st:CS):CS:=ig i st (iH al bl (st.1.getD i default))
def within (st:CS):Bool:=decide (st.1.length<=2048/\st.2.length<=8192)
def oI (al bl:List A):Nat->Nat->CS->Option CS
 | 0,_,_=>none
 | f+1,i,st=>if i<st.1.length then if within (EC al bl i st)=true then oI al bl f (i+1) (EC al bl i st) else none else some st
def vI (al bl:List A):Option CS:=oI al bl 2100 0 ([(0,0)],[])
def iK (fs ft:List Bool) (l:List Nd):List Bool:=l.map fun v=>fs.getD v.1.toNat false&&ft.getD v.2.toNat false
theorem Uy {a:Nd} {l:List Nd}:(ins a l).length<=l.length+1:=by unfold ins;split<;>simp
theorem Sm {a:Nd} {l:List Nd}:∃x,ins a l=l++x:=by
 unfold ins;split
 ·exact ⟨[],by simp⟩
 ·exact ⟨_,rfl⟩
theorem o7 {i:Int}:∀ {l:List Stp} {st:CS},∃x,(ig i st l).1=st.1++x
 | [],st=>⟨[],by simp [ig]⟩
 | m::l,st=>by
  obtain ⟨x,hx⟩:=o7 (i:=i) (l:=l) (st:=add1 i st m)
  obtain ⟨y,hy⟩:=Sm (a:=m.2.2) (l:=st.1)
  refine ⟨y++x,?_⟩
  show (ig i (add1 i st m) l).1=_
  rw [hx,<- List.append_assoc,<- hy];rfl
theorem nG {i:Int}:∀ {l:List Stp} {st:CS},(ig i st l).2.length=st.2.length+l.length/\(ig i st l).1.length<=st.1.length+l.length
 | [],st=>by simp [ig]
 | m::l,st=>by
  have h:=nG (i:=i) (l:=l) (st:=add1 i st m)
  have h2:=Uy (a:=m.2.2) (l:=st.1)
  have e:ig i st (m::l)=ig i (add1 i st m) l:=rfl
  rw [e]
  simp only [add1,List.length_append,List.length_cons,List.length_nil] at h ⊢
  omega
theorem zg {i:Int}:∀ {l:List Stp} {st:CS},st.1.Nodup->(ig i st l).1.Nodup
 | [],_,h=>h
 | m::l,st,h=>zg (l:=l) (st:=add1 i st m) (ins_nodup h)
def Qh (n m:Nat) (v:Nd):Prop:=0<=v.1/\v.1<n/\0<=v.2/\v.2<m
theorem CE {n m:Nat} {i:Int}:∀ {l:List Stp} {st:CS},(∀v∈st.1,Qh n m v)->(∀x∈l,Qh n m x.2.2)->∀v∈(ig i st l).1,Qh n m v
 | [],_,h,_=>h
 | x::l,st,h,hl=>CE (l:=l) (st:=add1 i st x) (fun v hv=>by
   rcases mem_ins.1 hv with rfl|hv
   ·exact hl x (by simp)
   ·exact h v hv) fun y hy=>hl y (by simp [hy])
theorem mem_stB {a:A} {two:List A} {x:Stp}:x∈stB a two <-> ∃b∈two,b.i=a.o/\x=(a.i,b.o,(a.t,b.t)):=by
 simp only [stB,List.mem_flatMap]
 constructor
 ·rintro ⟨b,hb,h⟩
  split at h
  ·rename_i e;exact ⟨b,hb,e,by simpa using h⟩
  ·cases h
 ·rintro ⟨b,hb,e,rfl⟩;exact ⟨b,hb,by simp [e]⟩
theorem mem_stps {one two:List A} {v:Nd} {x:Stp}:x∈OV one two v <-> (∃b∈two,b.i = -1/\x=(-1,b.o,(v.1,b.t)))\/(∃a∈one,a.o = -1/\x=(a.i,-1,(a.t,v.2)))\/(∃a∈one,∃b∈two,a.o ≠ -1/\b.i=a.o/\x=(a.i,b.o,(a.t,b.t))):=by
 simp only [OV,List.mem_append,stA,List.mem_flatMap]
 constructor
 ·rintro (⟨b,hb,h⟩|⟨a,ha,h⟩)
  ·split at h
   ·rename_i e;exact .inl ⟨b,hb,e,by simpa using h⟩
   ·cases h
  ·unfold y9 at h
   split at h
   ·rename_i e;exact .inr (.inl ⟨a,ha,e,by simpa using h⟩)
   ·rename_i e
    obtain ⟨b,hb,h1,h2⟩:=mem_stB.1 h
    exact .inr (.inr ⟨a,ha,b,hb,e,h1,h2⟩)
 ·rintro (⟨b,hb,e,rfl⟩|⟨a,ha,e,rfl⟩|⟨a,ha,b,hb,e,h1,rfl⟩)
  ·exact .inl ⟨b,hb,by simp [e]⟩
  ·exact .inr ⟨a,ha,by simp [y9,e]⟩
  ·exact .inr ⟨a,ha,by rw [y9,if_neg e];exact mem_stB.2 ⟨b,hb,h1,rfl⟩⟩
theorem mem_outA {p:Int} {l:List A} {a:A}:a∈outA p l <-> a∈l/\a.f=p:=by simp [outA]
theorem zh {n m:Nat} {al bl:List A} {v:Nd} (ha:∀a∈al,0<=a.t/\a.t<n) (hb:∀b∈bl,0<=b.t/\b.t<m) (hv:Qh n m v):∀x∈iH al bl v,Qh n m x.2.2:=by
 intro x hx
 obtain ⟨h1,h2,h3,h4⟩:=hv
 rcases mem_stps.1 hx with ⟨b,h,_,rfl⟩|⟨a,h,_,rfl⟩|⟨a,h,b,h',_,_,rfl⟩
 ·have:=hb b (mem_outA.1 h).1;exact ⟨h1,h2,this.1,this.2⟩
 ·have:=ha a (mem_outA.1 h).1;exact ⟨this.1,this.2,h3,h4⟩
 ·have h5:=ha a (mem_outA.1 h).1;have h6:=hb b (mem_outA.1 h').1;exact ⟨h5.1,h5.2,h6.1,h6.2⟩
theorem PH {two:List A} {v:Nd} {k:Nat} (h:k<two.length):stA (two.take (k+1)) v=stA (two.take k) v++if (two.getD k default).i = -1 then [(-1,(two.getD k default).o,(v.1,(two.getD k default).t))] else []:=by
 simp only [stA,List.take_add_one,List.getElem?_eq_getElem h,Option.toList_some,List.flatMap_append,List.flatMap_cons,List.flatMap_nil,List.append_nil,List.getD_eq_getElem?_getD,Option.getD_some]
theorem PL {a:A} {two:List A} {k:Nat} (h:k<two.length):stB a (two.take (k+1))=stB a (two.take k)++if (two.getD k default).i=a.o then [(a.i,(two.getD k default).o,(a.t,(two.getD k default).t))] else []:=by
 simp only [stB,List.take_add_one,List.getElem?_eq_getElem h,Option.toList_some,List.flatMap_append,List.flatMap_cons,List.flatMap_nil,List.append_nil,List.getD_eq_getElem?_getD,Option.getD_some]
theorem PD {one two:List A} {v:Nd} {k:Nat} (h:k<one.length):((one.take (k+1)).flatMap fun a=>y9 a two v)=((one.take k).flatMap fun a=>y9 a two v)++y9 (one.getD k default) two v:=by
 simp only [List.take_add_one,List.getElem?_eq_getElem h,Option.toList_some,List.flatMap_append,List.flatMap_cons,List.flatMap_nil,List.append_nil,List.getD_eq_getElem?_getD,Option.getD_some]
theorem wX {α β:Type} {f:α->List β} (h:∀a,(f a).length<=1):∀l:List α,(l.flatMap f).length<=l.length
 | []=>by simp
 | b::l=>by
  have h1:=h b
  have h2:=wX h l
  simp only [List.flatMap_cons,List.length_append,List.length_cons];omega
theorem BQ {two:List A} {v:Nd}:(stA two v).length<=two.length:=wX (fun b=>by split<;>simp) two
theorem JM {a:A} {two:List A}:(stB a two).length<=two.length:=wX (fun b=>by split<;>simp) two
theorem SK {a:A} {two:List A} {v:Nd}:(y9 a two v).length<=two.length+1:=by
 unfold y9;split
 ·simp
 ·exact Nat.le_trans JM (by omega)
theorem BD {one two:List A} {v:Nd}:(one.flatMap fun a=>y9 a two v).length<=one.length*(two.length+1):=by
 induction one with
 | nil=>simp
 | cons b l ih =>
  have:=SK (a:=b) (two:=two) (v:=v)
  simp only [List.flatMap_cons,List.length_append,List.length_cons]
  rw [Nat.add_mul];omega
end Go.FS
end
section
set_option linter.unusedSimpArgs false
set_option linter.unusedVariables false
namespace Go.FS
open Go.HL
theorem BZ {α:Type} [DecidableEq α] {l:List α} {a:α} (h:a∈l) (d:α):l.getD (qc l a) d=a:=by
 have hl:=xg h
 rw [List.getD_eq_getElem?_getD,List.getElem?_eq_getElem hl]
 have:=List.getElem_idxOf (x:=a) (xs:=l) hl
 exact this
theorem IY {α:Type} [DecidableEq α] {l m:List α} {a:α} (h:a∈l):qc (l++m) a=qc l a:=by
 unfold qc;rw [List.idxOf_append];simp [h]
theorem Nq {α:Type} {l m:List α} {i:Nat} {d:α} (h:i<l.length):(l++m).getD i d=l.getD i d:=by
 simp only [List.getD_eq_getElem?_getD];rw [List.getElem?_append_left h]
theorem Ac {i:Int}:∀ {l:List Stp} {st:CS},(∀x∈l,x.2.2∈(ig i st l).1)/\∀c,c∈(ig i st l).2 <-> c∈st.2\/∃x∈l,c=⟨i,x.1,x.2.1,(qc (ig i st l).1 x.2.2:Nat)⟩
 | [],st=>⟨by simp,fun c=>by simp [ig]⟩
 | m::l,st=>by
  obtain ⟨h1,h2⟩:=Ac (i:=i) (l:=l) (st:=add1 i st m)
  obtain ⟨y,hy⟩:=o7 (i:=i) (l:=l) (st:=add1 i st m)
  have e:ig i st (m::l)=ig i (add1 i st m) l:=rfl
  have hm:m.2.2∈(add1 i st m).1:=mem_ins.2 (.inl rfl)
  have hm2:m.2.2∈(ig i (add1 i st m) l).1:=by rw [hy];exact List.mem_append.2 (.inl hm)
  have hx:qc (ig i (add1 i st m) l).1 m.2.2=qc (add1 i st m).1 m.2.2:=by rw [hy,IY hm]
  rw [e]
  refine ⟨fun x hx=>?_,fun c=>?_⟩
  ·rcases List.mem_cons.1 hx with rfl|hx
   ·exact hm2
   ·exact h1 x hx
  ·rw [h2]
   have e2:(add1 i st m).2=st.2++[⟨i,m.1,m.2.1,(qc (add1 i st m).1 m.2.2:Nat)⟩]:=rfl
   rw [e2,<- hx]
   simp only [List.mem_append,List.mem_cons,List.not_mem_nil,or_false]
   constructor
   ·rintro ((h|h)|⟨x,hx,h⟩)
    ·exact .inl h
    ·exact .inr ⟨m,.inl rfl,h⟩
    ·exact .inr ⟨x,.inr hx,h⟩
   ·rintro (h|⟨x,rfl|hx,h⟩)
    ·exact .inl (.inl h)
    ·exact .inl (.inr h)
    ·exact .inr ⟨x,hx,h⟩
structure CV (al bl:List A) (i:Nat) (st:CS):Prop where
 hd:∃t,st.1=(0,0)::t
 le:i<=st.1.length
 sub:∀c∈st.2,∃j,j<i/\∃x∈iH al bl (st.1.getD j default),x.2.2∈st.1/\c=⟨j,x.1,x.2.1,(qc st.1 x.2.2:Nat)⟩
 all:∀j,j<i->∀x∈iH al bl (st.1.getD j default),x.2.2∈st.1/\(⟨j,x.1,x.2.1,(qc st.1 x.2.2:Nat)⟩:A)∈st.2
theorem CV.start {al bl:List A}:CV al bl 0 ([(0,0)],[]):=⟨⟨[],rfl⟩,by simp,by simp,fun j hj=>by omega⟩
theorem CV.step {al bl:List A} {i:Nat} {st:CS} (h:CV al bl i st) (hi:i<st.1.length):CV al bl (i+1) (EC al bl i st):=by
 obtain ⟨h1,h2⟩:=Ac (i:=i) (l:=iH al bl (st.1.getD i default)) (st:=st)
 obtain ⟨y,hy⟩:=o7 (i:=i) (l:=iH al bl (st.1.getD i default)) (st:=st)
 have e:EC al bl i st=ig i st (iH al bl (st.1.getD i default)):=rfl
 rw [e]
 generalize ig i st (iH al bl (st.1.getD i default))=s2 at h1 h2 hy
 have hg:∀j,j<st.1.length->s2.1.getD j default=st.1.getD j default:=fun j hj=>by rw [hy,Nq hj]
 have hx:∀ {a:Nd},a∈st.1->qc s2.1 a=qc st.1 a:=fun ha=>by rw [hy,IY ha]
 have hm:∀ {a:Nd},a∈st.1->a∈s2.1:=fun ha=>by rw [hy];exact List.mem_append.2 (.inl ha)
 have hle:=h.le
 refine ⟨?_,by rw [hy,List.length_append];omega,fun c hc=>?_,fun j hj x hxs=>?_⟩
 ·obtain ⟨t,ht⟩:=h.hd
  exact ⟨t++y,by rw [hy,ht];rfl⟩
 ·rcases (h2 c).1 hc with hc|⟨x,hxs,rfl⟩
  ·obtain ⟨j,hj,x,hxs,hxm,rfl⟩:=h.sub c hc
   exact ⟨j,by omega,x,by rw [hg j (by omega)];exact hxs,hm hxm,by rw [hx hxm]⟩
  ·exact ⟨i,by omega,x,by rw [hg i hi];exact hxs,h1 x hxs,rfl⟩
 ·by_cases e:j=i
  ·subst e
   rw [hg j hi] at hxs
   exact ⟨h1 x hxs,(h2 _).2 (.inr ⟨x,hxs,rfl⟩)⟩
  ·rw [hg j (by omega)] at hxs
   obtain ⟨h3,h4⟩:=h.all j (by omega) x hxs
   exact ⟨hm h3,(h2 _).2 (.inl (by rw [hx h3];exact h4))⟩
theorem xu {al bl:List A}:∀ {f i:Nat} {st s2:CS},CV al bl i st->oI al bl f i st=some s2->∃i',i'=s2.1.length/\CV al bl i' s2
 | 0,_,_,_,_,h=>by cases h
 | f+1,i,st,s2,hv,h=>by
  unfold oI at h
  split at h
  ·rename_i hi
   split at h
   ·exact xu (hv.step hi) h
   ·cases h
  ·rename_i hi
   simp only [Option.some.injEq] at h
   subst h
   have:=hv.le
   exact ⟨i,by omega,hv⟩
theorem yU {al bl:List A} {st:CS} (h:vI al bl=some st):CV al bl st.1.length st:=by
 obtain ⟨i,rfl,hv⟩:=xu .start h
 exact hv
section
variable {al bl:List A} {st:CS} (hv:CV al bl st.1.length st)
include hv
theorem CV.arc {p q:Int} (hm:(p,q)∈st.1) {x:Stp} (hx:x∈iH al bl (p,q)):x.2.2∈st.1/\(⟨(qc st.1 (p,q):Nat),x.1,x.2.1,(qc st.1 x.2.2:Nat)⟩:A)∈st.2 :=
 hv.all _ (xg hm) x (by rw [BZ hm];exact hx)
theorem CV.from {c:A} (hc:c∈st.2) {p q:Int} (hm:(p,q)∈st.1) (hf:c.f=(qc st.1 (p,q):Nat)):∃x∈iH al bl (p,q),x.2.2∈st.1/\c=⟨(qc st.1 (p,q):Nat),x.1,x.2.1,(qc st.1 x.2.2:Nat)⟩:=by
 obtain ⟨j,hj,x,hx,hxm,rfl⟩:=hv.sub c hc
 simp only at hf
 have:j=qc st.1 (p,q):=by omega
 subst this
 rw [BZ hm] at hx
 exact ⟨x,hx,hxm,rfl⟩
theorem QX {c d:Int} {w v:List Int} (h:Tr st.2 c w v d):∀ {p q:Int},(p,q)∈st.1->c=(qc st.1 (p,q):Nat)->∃p' q' m,(p',q')∈st.1/\d=(qc st.1 (p',q'):Nat)/\Tr al p w m p'/\Tr bl q m v q':=by
 induction h with
 | nil=>intro p q hm hc;exact ⟨p,q,[],hm,hc,.nil,.nil⟩
 | @step c u v d hc h ih =>
  intro p q hm hf
  obtain ⟨x,hx,hxm,rfl⟩:=hv.from hc hm hf
  obtain ⟨p',q',m,h1,h2,h3,h4⟩:=ih hxm rfl
  refine ⟨p',q',?_⟩
  rcases mem_stps.1 hx with ⟨b,hb,hi,rfl⟩|⟨a,ha,ho,rfl⟩|⟨a,ha,b,hb,ho,hi,rfl⟩
  ·obtain ⟨hb1,hb2⟩:=mem_outA.1 hb
   simp only at h3 h4 hb2 ⊢
   refine ⟨m,h1,h2,by rw [sy,if_pos rfl,List.nil_append];exact h3,?_⟩
   have:=Tr.step hb1 h4
   rw [hb2,sy,if_pos hi,List.nil_append] at this
   exact this
  ·obtain ⟨ha1,ha2⟩:=mem_outA.1 ha
   simp only at h3 h4 ha2 ⊢
   refine ⟨m,h1,h2,?_,by rw [show sy (-1)=[] from rfl,List.nil_append];exact h4⟩
   have:=Tr.step ha1 h3
   rw [ha2,ho,show sy (-1)=[] from rfl,List.nil_append] at this
   exact this
  ·obtain ⟨ha1,ha2⟩:=mem_outA.1 ha
   obtain ⟨hb1,hb2⟩:=mem_outA.1 hb
   simp only at h3 h4 ha2 hb2 ⊢
   refine ⟨sy a.o++m,h1,h2,?_,?_⟩
   ·have:=Tr.step ha1 h3
    rw [ha2] at this
    exact this
   ·have:=Tr.step hb1 h4
    rw [hb2,hi] at this
    exact this
theorem PS {q q':Int} {m v:List Int} (h:Tr bl q m v q'):m=[]->∀ {p:Int},(p,q)∈st.1->(p,q')∈st.1/\Tr st.2 (qc st.1 (p,q):Nat) [] v (qc st.1 (p,q'):Nat):=by
 induction h with
 | nil=>intro _ p hm;exact ⟨hm,.nil⟩
 | @step b u v q' hb h ih =>
  intro hu p hm
  obtain ⟨h1,h2⟩:=List.append_eq_nil_iff.1 hu
  have hi:b.i = -1:=by
   unfold sy at h1;split at h1
   ·assumption
   ·cases h1
  obtain ⟨h3,h4⟩:=hv.arc hm (x:=(-1,b.o,(p,b.t))) (mem_stps.2 (.inl ⟨b,mem_outA.2 ⟨hb,rfl⟩,hi,rfl⟩))
  obtain ⟨h5,h6⟩:=ih h2 h3
  have:=Tr.step h4 h6
  simp only [show sy (-1)=[] from rfl,List.nil_append] at this
  exact ⟨h5,this⟩
theorem N8 {a:A} (ha:a∈al) (ho:a.o ≠ -1) {m':List Int} {p' q':Int} {w':List Int}
  (ih:∀ {q:Int} {v:List Int},Tr bl q m' v q'->(a.t,q)∈st.1->(p',q')∈st.1/\Tr st.2 (qc st.1 (a.t,q):Nat) w' v (qc st.1 (p',q'):Nat))
  {q:Int} {m v:List Int} (h:Tr bl q m v q'):m=a.o::m'->(a.f,q)∈st.1->(p',q')∈st.1/\Tr st.2 (qc st.1 (a.f,q):Nat) (sy a.i++w') v (qc st.1 (p',q'):Nat):=by
 induction h with
 | nil=>intro h;cases h
 | @step b u v q' hb h ih2 =>
  intro hu hm
  by_cases hi:b.i = -1
  ·rw [sy,if_pos hi,List.nil_append] at hu
   obtain ⟨h3,h4⟩:=hv.arc hm (x:=(-1,b.o,(a.f,b.t))) (mem_stps.2 (.inl ⟨b,mem_outA.2 ⟨hb,rfl⟩,hi,rfl⟩))
   obtain ⟨h5,h6⟩:=ih2 ih hu h3
   have:=Tr.step h4 h6
   simp only [show sy (-1)=[] from rfl,List.nil_append] at this
   exact ⟨h5,this⟩
  ·rw [sy,if_neg hi] at hu
   simp only [List.cons_append,List.nil_append,List.cons.injEq] at hu
   obtain ⟨h7,rfl⟩:=hu
   obtain ⟨h3,h4⟩:=hv.arc hm (x:=(a.i,b.o,(a.t,b.t))) (mem_stps.2 (.inr (.inr ⟨a,mem_outA.2 ⟨ha,rfl⟩,b,mem_outA.2 ⟨hb,rfl⟩,ho,h7,rfl⟩)))
   obtain ⟨h5,h6⟩:=ih h h3
   exact ⟨h5,Tr.step h4 h6⟩
theorem TR {p p':Int} {w m:List Int} (h:Tr al p w m p'):∀ {q q':Int} {v:List Int},Tr bl q m v q'->(p,q)∈st.1->(p',q')∈st.1/\Tr st.2 (qc st.1 (p,q):Nat) w v (qc st.1 (p',q'):Nat):=by
 induction h with
 | nil=>intro q q' v h hm;exact PS hv h rfl hm
 | @step a w m p' ha h ih =>
  intro q q' v h2 hm
  by_cases ho:a.o = -1
  ·obtain ⟨h3,h4⟩:=hv.arc hm (x:=(a.i,-1,(a.t,q))) (mem_stps.2 (.inr (.inl ⟨a,mem_outA.2 ⟨ha,rfl⟩,ho,rfl⟩)))
   rw [sy,if_pos ho,List.nil_append] at h2
   obtain ⟨h5,h6⟩:=ih h2 h3
   have:=Tr.step h4 h6
   simp only [show sy (-1)=[] from rfl,List.nil_append] at this
   exact ⟨h5,this⟩
  ·rw [show sy a.o=[a.o] by unfold sy;rw [if_neg ho]] at h2
   exact N8 hv ha ho (fun h1 h2=>ih h1 h2) h2 rfl hm
end
theorem QZ {al bl:List A} {i:Nat} {st:CS} (hv:CV al bl i st):((0,0):Nd)∈st.1/\qc st.1 (0,0)=0:=by
 obtain ⟨t,ht⟩:=hv.hd
 rw [ht]
 exact ⟨by simp,by unfold qc;simp⟩
theorem Ou {al bl:List A} {fs ft:List Bool} {st:CS} (h:vI al bl=some st) (hin:∀v∈st.1,0<=v.1/\0<=v.2) {w v:List Int}:Out (iK fs ft st.1) st.2 w v <-> ∃m,Out fs al w m/\Out ft bl m v:=by
 have hv:=yU h
 obtain ⟨hz1,hz2⟩:=QZ hv
 have hfin:∀ {p q:Int},(p,q)∈st.1->(isFin (iK fs ft st.1) (qc st.1 (p,q):Nat) <-> isFin fs p/\isFin ft q):=fun {p q} hm=>by
  have hg:=BZ hm default
  have hl:=xg hm
  have hn:=hin _ hm
  unfold isFin iK
  rw [Int.toNat_natCast]
  have:(st.1.map fun v=>fs.getD v.1.toNat false&&ft.getD v.2.toNat false).getD (qc st.1 (p,q)) false=(fs.getD p.toNat false&&ft.getD q.toNat false):=by
   rw [List.getD_eq_getElem?_getD,List.getElem?_map,List.getElem?_eq_getElem hl]
   rw [List.getD_eq_getElem?_getD,List.getElem?_eq_getElem hl] at hg
   simp only [Option.getD_some] at hg
   simp only [Option.map_some,Option.getD_some,hg]
  rw [this,Bool.and_eq_true]
  simp only at hn
  exact ⟨fun h=>⟨⟨hn.1,h.2.1⟩,⟨hn.2,h.2.2⟩⟩,fun h=>⟨by omega,h.1.2,h.2.2⟩⟩
 simp only [out_tr]
 constructor
 ·rintro ⟨d,hd,hf⟩
  obtain ⟨p',q',m,h1,rfl,h3,h4⟩:=QX hv hd hz1 (by rw [hz2];rfl)
  obtain ⟨f1,f2⟩:=(hfin h1).1 hf
  exact ⟨m,⟨p',h3,f1⟩,⟨q',h4,f2⟩⟩
 ·rintro ⟨m,⟨p',h3,f1⟩,⟨q',h4,f2⟩⟩
  obtain ⟨h5,h6⟩:=TR hv h3 h4 hz1
  rw [hz2] at h6
  exact ⟨_,h6,(hfin h5).2 ⟨f1,f2⟩⟩
end Go.FS
end
