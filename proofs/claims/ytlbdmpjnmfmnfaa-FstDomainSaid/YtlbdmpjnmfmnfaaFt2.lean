import Derived.Test.YtlbdmpjnmfmnfaaFwD
import Derived.Test.YtlbdmpjnmfmnfaaHlW
import Derived.Test.YtlbdmpjnmfmnfaaR01
import Derived.Test.YtlbdmpjnmfmnfaaFt9
import Derived.Test.YtlbdmpjnmfmnfaaFsP
import Derived.Test.YtlbdmpjnmfmnfaaMnA
set_option linter.unusedSimpArgs false
set_option linter.unusedVariables false
set_option maxRecDepth 30000
set_option maxHeartbeats 8000000
section
namespace Go.Proofs.Ytlbdmpjnmfmnfaa
open Go.RowKit Go.HL Go.FS
theorem CG (fin:List Bool) (al:List A) (p q:Int) (hf:fin.length<=2000) (ha0:0<al.length) (ha:al.length<=2001) (hp : -9223372036854775808<=p/\p<=9223372036854775807) (hq : -9223372036854775808<=q/\q<=9223372036854775807) :
  hx Try.prog [.c Lu] (finish [6] (KC [.c 6 true 2] fun r=>∃f2 a2,r=.agg (dR f2 a2)/\f2.length<=9000/\a2.length<=9000/\(f2.length<=fin.length\/f2.length=2049)))
   ⟨[(1,.int .i64 p),(2,.int .i64 q),(6,.pref 0 [] 0),(7,.pref 1 [] 0)],[(0,.optr [.nils,.nils]),(1,.optr [.osl 1 fin.length (HL.bools fin),.osl 4 al.length (recs aC al)])],2⟩:=by
 unfold Lu Xe
 generalize hC:VX=C
 refine zF ⟨?_⟩
 refine aX aG bz (wP p al.length ha0 (by omega) hp.1 hp.2) ?_
 rintro _ ⟨y,rfl,hy⟩
 refine zG ⟨?_⟩
 refine zF ⟨?_⟩
 refine aX aG bz (wP q 8 (by omega) (by omega) hq.1 hq.2) ?_
 rintro _ ⟨z,rfl,hz⟩
 refine zG ⟨?_⟩
 rcases (show z=0\/z=1\/z=2\/z=3\/z=4\/z=5\/z=6\/z=7 by omega) with rfl|rfl|rfl|rfl|rfl|rfl|rfl|rfl
 ·refine zF ⟨?_⟩
  subst hC
  refine dZ 1 [1] [6,7] (⟨[(6,.pref 0 [] 0),(7,.pref 1 [] 0)],[(0,.optr [.nils,.nils]),(1,.optr [.osl 1 0 [],.osl 4 al.length (recs aC al)])],2⟩:St) rfl rfl ?_
  refine aP 1 [6,7] ⟨[(6,.pref 0 [] 0),(7,.ptr (stripL [.osl 1 0 (HL.bools []),.osl 4 al.length (recs aC al)]) 0)],[(0,.optr [.nils,.nils])],1⟩ rfl ?_
  rw [lC]
  refine zF ⟨?_⟩
  refine ae ?_
  exact ⟨_,_,rfl,rfl,[],al,by rw [dR,fU];rfl,by first|omega|(rw [List.length_replicate];omega)|simp,by first|omega|(rw [List.length_set];omega)|(rw [List.length_replicate];omega),by first|exact .inl (aY _)|exact .inl (dS _)|exact .inr List.length_replicate⟩
 ·refine zF ⟨?_⟩
  subst hC
  refine aP 1 [6,7] ⟨[(6,.pref 0 [] 0),(7,.ptr (stripL [.osl 1 fin.length (HL.bools fin),.osl 4 al.length (recs aC (al.set y { al.getD y default with f:=fin.length }))]) 0)],[(0,.optr [.nils,.nils])],1⟩ rfl ?_
  rw [lC]
  refine zF ⟨?_⟩
  refine ae ?_
  exact ⟨_,_,rfl,rfl,fin,(al.set y { al.getD y default with f:=fin.length }),by rw [dR,fU];rw [List.length_set];rfl,by first|omega|(rw [List.length_replicate];omega)|simp,by first|omega|(rw [List.length_set];omega)|(rw [List.length_replicate];omega),by first|exact .inl (aY _)|exact .inl (dS _)|exact .inr List.length_replicate⟩
 ·refine zF ⟨?_⟩
  subst hC
  refine aP 1 [6,7] ⟨[(6,.pref 0 [] 0),(7,.ptr (stripL [.osl 1 fin.length (HL.bools fin),.osl 4 al.length (recs aC (al.set y { al.getD y default with t := -1 }))]) 0)],[(0,.optr [.nils,.nils])],1⟩ rfl ?_
  rw [lC]
  refine zF ⟨?_⟩
  refine ae ?_
  exact ⟨_,_,rfl,rfl,fin,(al.set y { al.getD y default with t := -1 }),by rw [dR,fU];rw [List.length_set];rfl,by first|omega|(rw [List.length_replicate];omega)|simp,by first|omega|(rw [List.length_set];omega)|(rw [List.length_replicate];omega),by first|exact .inl (aY _)|exact .inl (dS _)|exact .inr List.length_replicate⟩
 ·refine zF ⟨?_⟩
  subst hC
  refine aP 1 [6,7] ⟨[(6,.pref 0 [] 0),(7,.ptr (stripL [.osl 1 fin.length (HL.bools fin),.osl 4 al.length (recs aC (al.set y { al.getD y default with i:=64 }))]) 0)],[(0,.optr [.nils,.nils])],1⟩ rfl ?_
  rw [lC]
  refine zF ⟨?_⟩
  refine ae ?_
  exact ⟨_,_,rfl,rfl,fin,(al.set y { al.getD y default with i:=64 }),by rw [dR,fU];rw [List.length_set];rfl,by first|omega|(rw [List.length_replicate];omega)|simp,by first|omega|(rw [List.length_set];omega)|(rw [List.length_replicate];omega),by first|exact .inl (aY _)|exact .inl (dS _)|exact .inr List.length_replicate⟩
 ·refine zF ⟨?_⟩
  subst hC
  refine aP 1 [6,7] ⟨[(6,.pref 0 [] 0),(7,.ptr (stripL [.osl 1 fin.length (HL.bools fin),.osl 4 al.length (recs aC (al.set y { al.getD y default with o := -2 }))]) 0)],[(0,.optr [.nils,.nils])],1⟩ rfl ?_
  rw [lC]
  refine zF ⟨?_⟩
  refine ae ?_
  exact ⟨_,_,rfl,rfl,fin,(al.set y { al.getD y default with o := -2 }),by rw [dR,fU];rw [List.length_set];rfl,by first|omega|(rw [List.length_replicate];omega)|simp,by first|omega|(rw [List.length_set];omega)|(rw [List.length_replicate];omega),by first|exact .inl (aY _)|exact .inl (dS _)|exact .inr List.length_replicate⟩
 ·refine zF ⟨?_⟩
  subst hC
  refine aP 1 [6,7] ⟨[(6,.pref 0 [] 0),(7,.ptr (stripL [.osl 1 2049 (HL.bools (List.replicate 2049 false)),.osl 4 al.length (recs aC al)]) 0)],[(0,.optr [.nils,.nils])],1⟩ rfl ?_
  rw [lC]
  refine zF ⟨?_⟩
  refine ae ?_
  exact ⟨_,_,rfl,rfl,(List.replicate 2049 false),al,by rw [dR,fU];rw [List.length_replicate];rfl,by first|omega|(rw [List.length_replicate];omega)|simp,by first|omega|(rw [List.length_set];omega)|(rw [List.length_replicate];omega),by first|exact .inl (aY _)|exact .inl (dS _)|exact .inr List.length_replicate⟩
 ·refine zF ⟨?_⟩
  subst hC
  refine aP 1 [6,7] ⟨[(6,.pref 0 [] 0),(7,.ptr (stripL [.osl 1 fin.length (HL.bools fin),.osl 4 8193 (recs aC (List.replicate 8193 ⟨0,0,0,0⟩))]) 0)],[(0,.optr [.nils,.nils])],1⟩ rfl ?_
  rw [lC]
  refine zF ⟨?_⟩
  refine ae ?_
  exact ⟨_,_,rfl,rfl,fin,(List.replicate 8193 ⟨0,0,0,0⟩),by rw [dR,fU];rw [List.length_replicate];rfl,by first|omega|(rw [List.length_replicate];omega)|simp,by first|omega|(rw [List.length_set];omega)|(rw [List.length_replicate];omega),by first|exact .inl (aY _)|exact .inl (dS _)|exact .inr List.length_replicate⟩
 ·refine zF ⟨?_⟩
  subst hC
  refine aP 1 [6,7] ⟨[(6,.pref 0 [] 0),(7,.ptr (stripL [.osl 1 fin.length (HL.bools fin),.osl 4 al.length (recs aC (al.set y { al.getD y default with o:=63 }))]) 0)],[(0,.optr [.nils,.nils])],1⟩ rfl ?_
  rw [lC]
  refine zF ⟨?_⟩
  refine ae ?_
  exact ⟨_,_,rfl,rfl,fin,(al.set y { al.getD y default with o:=63 }),by rw [dR,fU];rw [List.length_set];rfl,by first|omega|(rw [List.length_replicate];omega)|simp,by first|omega|(rw [List.length_set];omega)|(rw [List.length_replicate];omega),by first|exact .inl (aY _)|exact .inl (dS _)|exact .inr List.length_replicate⟩
theorem O8 (fin:List Bool) (al:List A) (p q:Int) (hf:fin.length<=2000) (ha:al.length<=2000) (hp : -9223372036854775808<=p/\p<=9223372036854775807) (hq : -9223372036854775808<=q/\q<=9223372036854775807):HT Try.prog 12 [.agg (dR fin al),.int .i64 p,.int .i64 q] (fun r=>∃f2 a2,r=.agg (dR f2 a2)/\f2.length<=9000/\a2.length<=9000/\(f2.length<=fin.length\/f2.length=2049)):=by
 refine HT.ofC rfl aeH [6] rfl (bF rfl) ?_
 unfold c12 Xn XE
 generalize hC:Lu=C
 simp only [ay,Nat.reduceAdd,dR,fU]
 refine zF ⟨?_⟩
 refine aP 0 [1,2,3,6] ⟨[(1,.int .i64 p),(2,.int .i64 q),(3,.ptr (stripL [.sl fin.length (HL.bools fin),.sl al.length (recs aC al)]) 0),(6,.pref 0 [] 0)],[(0,.optr [.nils,.nils])],1⟩ rfl ?_
 rw [pM]
 refine jR [3] [] aA aA (fun _ _ _=>False) (by simp [au,HV.deep,aQ,kW,Bf]) (by simp) ?_
 by_cases ha0:0<al.length
 ·refine zF ⟨?_⟩
  subst hC
  refine qj (Weak.norm2 [1,2,6,7] _) ?_
  exact CG fin al p q hf ha0 (by omega) hp hq
 ·obtain rfl:al=[]:=List.length_eq_zero_iff.1 (by omega)
  refine zF ⟨?_⟩
  subst hC
  refine qj (Weak.norm2 [1,2,6,7] _) ?_
  exact CG fin [⟨0,0,0,0⟩] p q hf (by simp) (by simp) hp hq
theorem Ux (l:List Int) (m:Nat) (hl:l.length<=9223372036854775807) (hm:m<=1000) (hr:∀k,k<l.length -> -9223372036854775808<=l.getD k 0/\l.getD k 0<=9223372036854775807):HT Try.prog 14 [I l,.int .i64 m] (fun r=>∃u:List Int,r=.osl 1 u.length (HL.ints u)/\u.length<=m/\∀x∈u,0<=x/\x<3):=by
 refine HT.of rfl aeu (bF rfl) ?_
 unfold c14
 simp only [I,ay,Nat.reduceAdd]
 refine zF ⟨?_⟩
 refine aF [0,1,5,6] (fun u:List Int=>u.length<=m/\u.length<=l.length/\∀x∈u,0<=x/\x<3)
  (fun u=>⟨[(0,.sl l.length (HL.ints l)),(1,.int .i64 m),(5,.ref 0 [] 1 0 u.length),(6,.int .i64 u.length)],[(0,.osl 1 u.length (HL.ints u))],1⟩)
  (fun u=>m - u.length) [] ⟨by simp,by simp,by simp⟩ rfl ?_
 rintro u ⟨h1,h2,h3⟩
 by_cases c1:u.length<l.length
 ·by_cases c2:u.length<m
  ·have hh:=hr u.length c1
   have hsn:∀x:Int,(u++[x]).length=u.length+1:=by simp
   refine zF ⟨?_⟩
   refine aX aG bz (wP (l.getD u.length 0) 3 (by omega) (by omega) hh.1 hh.2) ?_
   rintro _ ⟨y,rfl,hy⟩
   refine zG ⟨?_⟩
   refine zF ⟨?_⟩
   exact aV [0,1,5,6] (u++[(y:Int)]) ⟨by rw [hsn];omega,by rw [hsn];omega,fun z hz=>by
    rcases zl002.1 hz with hz|hz
    ·exact h3 z hz
    ·rw [zl009.1 hz];omega⟩ (by rw [hsn];omega) (by rw [hsn];rfl)
  ·refine zF ⟨?_⟩
   refine ae ?_
   exact ⟨u,rfl,h1,h3⟩
 ·refine zF ⟨?_⟩
  refine ae ?_
  exact ⟨u,rfl,h1,h3⟩
end Go.Proofs.Ytlbdmpjnmfmnfaa
end
section
namespace Go.FS
open Go.HL
abbrev Stp:=Int×Int×Nd
def stA (two:List A) (v:Nd):List Stp:=two.flatMap fun b=>if b.i = -1 then [(-1,b.o,(v.1,b.t))] else []
def stB (a:A) (two:List A):List Stp:=two.flatMap fun b=>if b.i=a.o then [(a.i,b.o,(a.t,b.t))] else []
def GX (a:A) (two:List A) (v:Nd):List Stp:=if a.o = -1 then [(a.i,-1,(a.t,v.2))] else stB a two
def ZE (one two:List A) (v:Nd):List Stp:=stA two v++one.flatMap fun a=>GX a two v
abbrev CS:=List Nd×List A
def ixN {α:Type} [DecidableEq α] (l:List α) (a:α):Nat:=l.idxOf a
theorem WY {α:Type} [DecidableEq α] {l:List α} {a:α} (h:a∈l):ixN l a<l.length:=List.idxOf_lt_length_of_mem h
theorem Zt {α:Type} [DecidableEq α] {l:List α} {a:α} (h:a ∉ l):ixN (l++[a]) a=l.length:=by
 unfold ixN;rw [MW];simp [h]
def add1 (i:Int) (st:CS) (m:Stp):CS:=(ins m.2.2 st.1,st.2++[⟨i,m.1,m.2.1,(ixN (ins m.2.2 st.1) m.2.2:Nat)⟩])
def jc (i:Int) (st:CS) (l:List Stp):CS:=l.foldl (add1 i) st
theorem Du {i:Int} {st:CS} {l m:List Stp}:jc i st (l++m)=jc i (jc i st l) m:=by simp [jc]
theorem Hg {i:Int} {st:CS} {m:Stp}:jc i st [m]=add1 i st m:=rfl
def outA (p:Int) (l:List A):List A:=l.filter fun a=>a.f==p
def Dl (al bl:List A) (v:Nd):List Stp:=ZE (outA v.1 al) (outA v.2 bl) v
def rnd (al bl:List A) (i:Nat) (st:CS):CS:=jc i st (Dl al bl (st.1.getD i default))
def within (st:CS):Bool:=decide (st.1.length<=2048/\st.2.length<=8192)
def DC (al bl:List A):Nat->Nat->CS->Option CS
 | 0,_,_=>none
 | f+1,i,st=>if i<st.1.length then if within (rnd al bl i st)=true then DC al bl f (i+1) (rnd al bl i st) else none else some st
def Mc (al bl:List A):Option CS:=DC al bl 2100 0 ([(0,0)],[])
def oh (fs ft:List Bool) (l:List Nd):List Bool:=l.map fun v=>fs.getD v.1.toNat false&&ft.getD v.2.toNat false
theorem ab4 {a:Nd} {l:List Nd}:(ins a l).length<=l.length+1:=by unfold ins;split<;>simp
theorem ZI {a:Nd} {l:List Nd}:∃x,ins a l=l++x:=by
 unfold ins;split
 ·exact ⟨[],by simp⟩
 ·exact ⟨_,rfl⟩
theorem GY {i:Int}:∀ {l:List Stp} {st:CS},∃x,(jc i st l).1=st.1++x
 | [],st=>⟨[],by simp [jc]⟩
 | m::l,st=>by
  obtain ⟨x,hx⟩:=GY (i:=i) (l:=l) (st:=add1 i st m)
  obtain ⟨y,hy⟩:=ZI (a:=m.2.2) (l:=st.1)
  refine ⟨y++x,?_⟩
  show (jc i (add1 i st m) l).1=_
  rw [hx,<- tZ,<- hy];rfl
theorem wI {i:Int}:∀ {l:List Stp} {st:CS},(jc i st l).2.length=st.2.length+l.length/\(jc i st l).1.length<=st.1.length+l.length
 | [],st=>by simp [jc]
 | m::l,st=>by
  have h:=wI (i:=i) (l:=l) (st:=add1 i st m)
  have h2:=ab4 (a:=m.2.2) (l:=st.1)
  have e:jc i st (m::l)=jc i (add1 i st m) l:=rfl
  rw [e]
  simp only [add1,dQ,List.length_cons,List.length_nil] at h ⊢
  omega
def inP (n m:Nat) (v:Nd):Prop:=0<=v.1/\v.1<n/\0<=v.2/\v.2<m
theorem SC {n m:Nat} {i:Int}:∀ {l:List Stp} {st:CS},(∀v∈st.1,inP n m v)->(∀x∈l,inP n m x.2.2)->∀v∈(jc i st l).1,inP n m v
 | [],_,h,_=>h
 | x::l,st,h,hl=>SC (l:=l) (st:=add1 i st x) (fun v hv=>by
   rcases mem_ins.1 hv with rfl|hv
   ·exact hl x (by simp)
   ·exact h v hv) fun y hy=>hl y (by simp [hy])
theorem mem_stB {a:A} {two:List A} {x:Stp}:x∈stB a two <-> ∃b∈two,b.i=a.o/\x=(a.i,b.o,(a.t,b.t)):=by
 simp only [stB,zl055]
 constructor
 ·rintro ⟨b,hb,h⟩
  split at h
  ·rename_i e;exact ⟨b,hb,e,by simpa using h⟩
  ·cases h
 ·rintro ⟨b,hb,e,rfl⟩;exact ⟨b,hb,by simp [e]⟩
theorem mem_stps {one two:List A} {v:Nd} {x:Stp}:x∈ZE one two v <-> (∃b∈two,b.i = -1/\x=(-1,b.o,(v.1,b.t)))\/(∃a∈one,a.o = -1/\x=(a.i,-1,(a.t,v.2)))\/(∃a∈one,∃b∈two,a.o ≠ -1/\b.i=a.o/\x=(a.i,b.o,(a.t,b.t))):=by
 simp only [ZE,zl002,stA,zl055]
 constructor
 ·rintro (⟨b,hb,h⟩|⟨a,ha,h⟩)
  ·split at h
   ·rename_i e;exact .inl ⟨b,hb,e,by simpa using h⟩
   ·cases h
  ·unfold GX at h
   split at h
   ·rename_i e;exact .inr (.inl ⟨a,ha,e,by simpa using h⟩)
   ·rename_i e
    obtain ⟨b,hb,h1,h2⟩:=mem_stB.1 h
    exact .inr (.inr ⟨a,ha,b,hb,e,h1,h2⟩)
 ·rintro (⟨b,hb,e,rfl⟩|⟨a,ha,e,rfl⟩|⟨a,ha,b,hb,e,h1,rfl⟩)
  ·exact .inl ⟨b,hb,by simp [e]⟩
  ·exact .inr ⟨a,ha,by simp [GX,e]⟩
  ·exact .inr ⟨a,ha,by rw [GX,if_neg e];exact mem_stB.2 ⟨b,hb,h1,rfl⟩⟩
theorem mem_outA {p:Int} {l:List A} {a:A}:a∈outA p l <-> a∈l/\a.f=p:=by simp [outA]
theorem Qg {n m:Nat} {al bl:List A} {v:Nd} (ha:∀a∈al,0<=a.t/\a.t<n) (hb:∀b∈bl,0<=b.t/\b.t<m) (hv:inP n m v):∀x∈Dl al bl v,inP n m x.2.2:=by
 intro x hx
 obtain ⟨h1,h2,h3,h4⟩:=hv
 rcases mem_stps.1 hx with ⟨b,h,_,rfl⟩|⟨a,h,_,rfl⟩|⟨a,h,b,h',_,_,rfl⟩
 ·have:=hb b (mem_outA.1 h).1;exact ⟨h1,h2,this.1,this.2⟩
 ·have:=ha a (mem_outA.1 h).1;exact ⟨this.1,this.2,h3,h4⟩
 ·have h5:=ha a (mem_outA.1 h).1;have h6:=hb b (mem_outA.1 h').1;exact ⟨h5.1,h5.2,h6.1,h6.2⟩
theorem VA {two:List A} {v:Nd} {k:Nat} (h:k<two.length):stA (two.take (k+1)) v=stA (two.take k) v++if (two.getD k default).i = -1 then [(-1,(two.getD k default).o,(v.1,(two.getD k default).t))] else []:=by
 simp only [stA,rG,bn h,Et,IR,List.flatMap_cons,List.flatMap_nil,List.append_nil,bf,fV]
theorem Xr {a:A} {two:List A} {k:Nat} (h:k<two.length):stB a (two.take (k+1))=stB a (two.take k)++if (two.getD k default).i=a.o then [(a.i,(two.getD k default).o,(a.t,(two.getD k default).t))] else []:=by
 simp only [stB,rG,bn h,Et,IR,List.flatMap_cons,List.flatMap_nil,List.append_nil,bf,fV]
theorem Ye {one two:List A} {v:Nd} {k:Nat} (h:k<one.length):((one.take (k+1)).flatMap fun a=>GX a two v)=((one.take k).flatMap fun a=>GX a two v)++GX (one.getD k default) two v:=by
 simp only [rG,bn h,Et,IR,List.flatMap_cons,List.flatMap_nil,List.append_nil,bf,fV]
theorem D8 {α β:Type} {f:α->List β} (h:∀a,(f a).length<=1):∀l:List α,(l.flatMap f).length<=l.length
 | []=>by simp
 | b::l=>by
  have h1:=h b
  have h2:=D8 h l
  simp only [List.flatMap_cons,dQ,List.length_cons];omega
theorem Q4 {two:List A} {v:Nd}:(stA two v).length<=two.length:=D8 (fun b=>by split<;>simp) two
theorem QK {a:A} {two:List A}:(stB a two).length<=two.length:=D8 (fun b=>by split<;>simp) two
theorem Yu {a:A} {two:List A} {v:Nd}:(GX a two v).length<=two.length+1:=by
 unfold GX;split
 ·simp
 ·exact sU QK (by omega)
theorem RD {one two:List A} {v:Nd}:(one.flatMap fun a=>GX a two v).length<=one.length*(two.length+1):=by
 induction one with
 | nil=>simp
 | cons b l ih =>
  have:=Yu (a:=b) (two:=two) (v:=v)
  simp only [List.flatMap_cons,dQ,List.length_cons]
  rw [nU];omega
end Go.FS
end
