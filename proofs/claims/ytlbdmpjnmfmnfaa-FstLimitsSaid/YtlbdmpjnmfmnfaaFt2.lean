import Derived.Test.YtlbdmpjnmfmnfaaHl5
import Derived.Test.YtlbdmpjnmfmnfaaCodes
import Derived.Test.YtlbdmpjnmfmnfaaFsP
section
set_option linter.unusedSimpArgs false
set_option linter.unusedVariables false
namespace Go.Proofs.Ytlbdmpjnmfmnfaa
open Go.RowKit Go.HL
section
variable {F:Nat->Prop} {h:Hp} {R:HV->Value->Prop}
end
section
variable {P:Program} {k:List HI} {Q:HE->St->Prop} {C:CallSpec} {all r:List aB} {i:Nat} {d:Option Nat} {sl sl' st st':List (Nat×HV)} {nx nx':Nat}
end
theorem gu (l:List Int) {n:Nat} (h:n=l.length):win (HL.ints l) 0 n=HL.ints l:=iI _ (by rw [ints_len];exact h)
theorem fF (l:List Bool) {n:Nat} (h:n=l.length):win (HL.bools l) 0 n=HL.bools l:=iI _ (by rw [bools_len];exact h)
theorem Ai (v:HV) (r:List HV):bW (v::r)=(gp v&&bW r):=rfl
theorem DZ:bW []=true:=rfl
theorem uf (v:HV) (r:List HV):fZ (v::r)=(cellV v&&fZ r):=rfl
theorem vT:fZ []=true:=rfl
theorem Ot (n:Nat):(List.replicate n [HV.int .i64 0]).flatten=HL.ints (List.replicate n 0):=by
 induction n with
 | zero=>rfl
 | succ n ih=>rw [List.replicate_succ,List.flatten_cons,ih];rfl
theorem Dh (n:Nat):(List.replicate n [HV.bool false]).flatten=HL.bools (List.replicate n false):=by
 induction n with
 | zero=>rfl
 | succ n ih=>rw [List.replicate_succ,List.flatten_cons,ih];rfl
theorem PY (off m:Nat):win [] off m=[]:=by unfold win;split<;>simp
theorem win_cons (a:HV) (r:List HV) (off m:Nat):win (a::r) off m=if off=0/\m=(a::r).length then a::r else ((a::r).drop off).take m:=rfl
attribute [go_sem] HL.ints_get HL.bools_get List.getD_cons_zero List.getD_cons_succ PY gu fF win_cons List.drop_zero List.drop_succ_cons List.take_zero List.take_succ_cons List.length_cons List.length_nil and_true true_and and_self and_false false_and if_true if_false Nat.mul_one Nat.zero_mul Nat.zero_add Nat.add_zero Nat.mul_zero HL.ints_len HL.bools_len List.length_set HL.ints_cell HL.bools_cell uf vT cellV HL.ints_flat HL.bools_flat Ai DZ gp Bool.and_true Bool.and_self Int.toNat_natCast Int.sub_zero Int.toNat_zero HL.ints_snoc HL.bools_snoc HL.ints_app HL.bools_app List.nil_append List.append_nil List.cons_append setFrom HL.ints_set HL.bools_set List.set_cons_zero List.set_cons_succ dK aG dD bz cellsOf List.flatMap_cons List.flatMap_nil stride dW Ot Dh IntWalk.i64_in Bool.not_true Bool.not_false Bool.false_eq_true beq_self_eq_true beq_true beq_false Bool.true_beq Bool.false_beq Bool.not_not
end Go.Proofs.Ytlbdmpjnmfmnfaa
end
section
set_option linter.unusedSimpArgs false
set_option linter.unusedVariables false
namespace Go.FS
open Go.HL
abbrev Stp:=Int×Int×Nd
def stA (two:List A) (v:Nd):List Stp:=two.flatMap fun b=>if b.i = -1 then [(-1,b.o,(v.1,b.t))] else []
def stB (a:A) (two:List A):List Stp:=two.flatMap fun b=>if b.i=a.o then [(a.i,b.o,(a.t,b.t))] else []
def yC (a:A) (two:List A) (v:Nd):List Stp:=if a.o = -1 then [(a.i,-1,(a.t,v.2))] else stB a two
def MG (one two:List A) (v:Nd):List Stp:=stA two v++one.flatMap fun a=>yC a two v
abbrev CS:=List Nd×List A
def pg {α:Type} [DecidableEq α] (l:List α) (a:α):Nat:=l.idxOf a
theorem vM {α:Type} [DecidableEq α] {l:List α} {a:α} (h:a∈l):pg l a<l.length:=List.idxOf_lt_length_of_mem h
theorem Oi {α:Type} [DecidableEq α] {l:List α} {a:α} (h:a ∉ l):pg (l++[a]) a=l.length:=by
 unfold pg;rw [List.idxOf_append];simp [h]
def add1 (i:Int) (st:CS) (m:Stp):CS:=(ins m.2.2 st.1,st.2++[⟨i,m.1,m.2.1,(pg (ins m.2.2 st.1) m.2.2:Nat)⟩])
def gG (i:Int) (st:CS) (l:List Stp):CS:=l.foldl (add1 i) st
theorem uk {i:Int} {st:CS} {l m:List Stp}:gG i st (l++m)=gG i (gG i st l) m:=by simp [gG]
theorem uh {i:Int} {st:CS} {m:Stp}:gG i st [m]=add1 i st m:=rfl
def outA (p:Int) (l:List A):List A:=l.filter fun a=>a.f==p
def gB (al bl:List A) (v:Nd):List Stp:=MG (outA v.1 al) (outA v.2 bl) v
def Bd (al bl:List A) (i:Nat) (st:CS):CS:=gG i st (gB al bl (st.1.getD i default))
def within (st:CS):Bool:=decide (st.1.length<=2048/\st.2.length<=8192)
def lH (al bl:List A):Nat->Nat->CS->Option CS
 | 0,_,_=>none
 | f+1,i,st=>if i<st.1.length then if within (Bd al bl i st)=true then lH al bl f (i+1) (Bd al bl i st) else none else some st
def oG (al bl:List A):Option CS:=lH al bl 2100 0 ([(0,0)],[])
def iw (fs ft:List Bool) (l:List Nd):List Bool:=l.map fun v=>fs.getD v.1.toNat false&&ft.getD v.2.toNat false
theorem RP {a:Nd} {l:List Nd}:(ins a l).length<=l.length+1:=by unfold ins;split<;>simp
theorem Qj {a:Nd} {l:List Nd}:∃x,ins a l=l++x:=by
 unfold ins;split
 ·exact ⟨[],by simp⟩
 ·exact ⟨_,rfl⟩
theorem oI {i:Int}:∀ {l:List Stp} {st:CS},∃x,(gG i st l).1=st.1++x
 | [],st=>⟨[],by simp [gG]⟩
 | m::l,st=>by
  obtain ⟨x,hx⟩:=oI (i:=i) (l:=l) (st:=add1 i st m)
  obtain ⟨y,hy⟩:=Qj (a:=m.2.2) (l:=st.1)
  refine ⟨y++x,?_⟩
  show (gG i (add1 i st m) l).1=_
  rw [hx,<- List.append_assoc,<- hy];rfl
theorem mY {i:Int}:∀ {l:List Stp} {st:CS},(gG i st l).2.length=st.2.length+l.length/\(gG i st l).1.length<=st.1.length+l.length
 | [],st=>by simp [gG]
 | m::l,st=>by
  have h:=mY (i:=i) (l:=l) (st:=add1 i st m)
  have h2:=RP (a:=m.2.2) (l:=st.1)
  have e:gG i st (m::l)=gG i (add1 i st m) l:=rfl
  rw [e]
  simp only [add1,List.length_append,List.length_cons,List.length_nil] at h ⊢
  omega
theorem yg {i:Int}:∀ {l:List Stp} {st:CS},st.1.Nodup->(gG i st l).1.Nodup
 | [],_,h=>h
 | m::l,st,h=>yg (l:=l) (st:=add1 i st m) (ins_nodup h)
def JH (n m:Nat) (v:Nd):Prop:=0<=v.1/\v.1<n/\0<=v.2/\v.2<m
theorem AL {n m:Nat} {i:Int}:∀ {l:List Stp} {st:CS},(∀v∈st.1,JH n m v)->(∀x∈l,JH n m x.2.2)->∀v∈(gG i st l).1,JH n m v
 | [],_,h,_=>h
 | x::l,st,h,hl=>AL (l:=l) (st:=add1 i st x) (fun v hv=>by
   rcases mem_ins.1 hv with rfl|hv
   ·exact hl x (by simp)
   ·exact h v hv) fun y hy=>hl y (by simp [hy])
theorem mem_stB {a:A} {two:List A} {x:Stp}:x∈stB a two <-> ∃b∈two,b.i=a.o/\x=(a.i,b.o,(a.t,b.t)):=by
 simp only [stB,List.mem_flatMap]
 constructor
 ·rintro ⟨b,hb,h⟩
  split at h
  ·rename_i e;exact ⟨b,hb,e,by simpa using h⟩
  ·cases h
 ·rintro ⟨b,hb,e,rfl⟩;exact ⟨b,hb,by simp [e]⟩
theorem mem_stps {one two:List A} {v:Nd} {x:Stp}:x∈MG one two v <-> (∃b∈two,b.i = -1/\x=(-1,b.o,(v.1,b.t)))\/(∃a∈one,a.o = -1/\x=(a.i,-1,(a.t,v.2)))\/(∃a∈one,∃b∈two,a.o ≠ -1/\b.i=a.o/\x=(a.i,b.o,(a.t,b.t))):=by
 simp only [MG,List.mem_append,stA,List.mem_flatMap]
 constructor
 ·rintro (⟨b,hb,h⟩|⟨a,ha,h⟩)
  ·split at h
   ·rename_i e;exact .inl ⟨b,hb,e,by simpa using h⟩
   ·cases h
  ·unfold yC at h
   split at h
   ·rename_i e;exact .inr (.inl ⟨a,ha,e,by simpa using h⟩)
   ·rename_i e
    obtain ⟨b,hb,h1,h2⟩:=mem_stB.1 h
    exact .inr (.inr ⟨a,ha,b,hb,e,h1,h2⟩)
 ·rintro (⟨b,hb,e,rfl⟩|⟨a,ha,e,rfl⟩|⟨a,ha,b,hb,e,h1,rfl⟩)
  ·exact .inl ⟨b,hb,by simp [e]⟩
  ·exact .inr ⟨a,ha,by simp [yC,e]⟩
  ·exact .inr ⟨a,ha,by rw [yC,if_neg e];exact mem_stB.2 ⟨b,hb,h1,rfl⟩⟩
theorem mem_outA {p:Int} {l:List A} {a:A}:a∈outA p l <-> a∈l/\a.f=p:=by simp [outA]
theorem xx {n m:Nat} {al bl:List A} {v:Nd} (ha:∀a∈al,0<=a.t/\a.t<n) (hb:∀b∈bl,0<=b.t/\b.t<m) (hv:JH n m v):∀x∈gB al bl v,JH n m x.2.2:=by
 intro x hx
 obtain ⟨h1,h2,h3,h4⟩:=hv
 rcases mem_stps.1 hx with ⟨b,h,_,rfl⟩|⟨a,h,_,rfl⟩|⟨a,h,b,h',_,_,rfl⟩
 ·have:=hb b (mem_outA.1 h).1;exact ⟨h1,h2,this.1,this.2⟩
 ·have:=ha a (mem_outA.1 h).1;exact ⟨this.1,this.2,h3,h4⟩
 ·have h5:=ha a (mem_outA.1 h).1;have h6:=hb b (mem_outA.1 h').1;exact ⟨h5.1,h5.2,h6.1,h6.2⟩
theorem MB {two:List A} {v:Nd} {k:Nat} (h:k<two.length):stA (two.take (k+1)) v=stA (two.take k) v++if (two.getD k default).i = -1 then [(-1,(two.getD k default).o,(v.1,(two.getD k default).t))] else []:=by
 simp only [stA,List.take_add_one,List.getElem?_eq_getElem h,Option.toList_some,List.flatMap_append,List.flatMap_cons,List.flatMap_nil,List.append_nil,List.getD_eq_getElem?_getD,Option.getD_some]
theorem LV {a:A} {two:List A} {k:Nat} (h:k<two.length):stB a (two.take (k+1))=stB a (two.take k)++if (two.getD k default).i=a.o then [(a.i,(two.getD k default).o,(a.t,(two.getD k default).t))] else []:=by
 simp only [stB,List.take_add_one,List.getElem?_eq_getElem h,Option.toList_some,List.flatMap_append,List.flatMap_cons,List.flatMap_nil,List.append_nil,List.getD_eq_getElem?_getD,Option.getD_some]
theorem J6 {one two:List A} {v:Nd} {k:Nat} (h:k<one.length):((one.take (k+1)).flatMap fun a=>yC a two v)=((one.take k).flatMap fun a=>yC a two v)++yC (one.getD k default) two v:=by
 simp only [List.take_add_one,List.getElem?_eq_getElem h,Option.toList_some,List.flatMap_append,List.flatMap_cons,List.flatMap_nil,List.append_nil,List.getD_eq_getElem?_getD,Option.getD_some]
theorem vG {α β:Type} {f:α->List β} (h:∀a,(f a).length<=1):∀l:List α,(l.flatMap f).length<=l.length
 | []=>by simp
 | b::l=>by
  have h1:=h b
  have h2:=vG h l
  simp only [List.flatMap_cons,List.length_append,List.length_cons];omega
theorem Bo {two:List A} {v:Nd}:(stA two v).length<=two.length:=vG (fun b=>by split<;>simp) two
theorem Ha {a:A} {two:List A}:(stB a two).length<=two.length:=vG (fun b=>by split<;>simp) two
theorem PP {a:A} {two:List A} {v:Nd}:(yC a two v).length<=two.length+1:=by
 unfold yC;split
 ·simp
 ·exact Nat.le_trans Ha (by omega)
theorem AO {one two:List A} {v:Nd}:(one.flatMap fun a=>yC a two v).length<=one.length*(two.length+1):=by
 induction one with
 | nil=>simp
 | cons b l ih =>
  have:=PP (a:=b) (two:=two) (v:=v)
  simp only [List.flatMap_cons,List.length_append,List.length_cons]
  rw [Nat.add_mul];omega
end Go.FS
end
