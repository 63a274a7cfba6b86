import Derived.Test.YtlbdmpjnmfmnfaaFs2
import Derived.Test.YtlbdmpjnmfmnfaaHlFi
import Derived.Test.YtlbdmpjnmfmnfaaFsB
import Derived.Test.YtlbdmpjnmfmnfaaFv2
import Derived.Test.YtlbdmpjnmfmnfaaFsP
import Derived.Test.YtlbdmpjnmfmnfaaHlLg
import Derived.Test.YtlbdmpjnmfmnfaaFsA
set_option linter.unusedSimpArgs false
set_option linter.unusedVariables false
set_option linter.unnecessarySimpa false
set_option maxHeartbeats 8000000
section
namespace Go.Proofs.Ytlbdmpjnmfmnfaa
open Go.RowKit Go.HL Go.FS
theorem JH (l:List Bool) (h:0<l.length) (h2:l.length<=100000000):HT Try.prog 67 [.sl l.length (HL.bools l)] (fun r=>r=.osl 1 l.length (HL.bools l)):=by
 refine HT.of rfl agd (aZ rfl) ?_
 unfold c67
 simp only [aA,Nat.reduceAdd]
 refine zF ⟨?_⟩
 refine ae ?_
 rfl
def wW (a:A):A:=⟨a.f,a.o,a.i,a.t⟩
def Dx (fin:List Bool) (al:List A):List Bool×List A:=if okF fin al=true then (fin,al.map wW) else ([],[])
theorem JR (fin:List Bool) (al:List A) (hf:fin.length<=9223372036854775807) (ha:al.length<=9223372036854775807):HT Try.prog 23 [.agg (dE fin al)] (fun r=>r=.agg (dE (Dx fin al).1 (Dx fin al).2)):=by
 refine HT.ofC rfl agc [2] rfl (aZ rfl) ?_
 unfold c23
 have hvd:=yH fin al hf ha
 simp only [aA,Nat.reduceAdd]
 simp only [dE,fB] at hvd ⊢
 refine zF ⟨?_⟩
 refine aF ay aK (hvd) ?_
 rintro _ rfl
 by_cases hv:okF fin al=true
 ·have ht:Dx fin al=(fin,al.map wW):=if_pos hv
  rw [hv]
  refine zG ⟨?_⟩
  obtain ⟨h1,h2,h3⟩:=bY hv
  refine zF ⟨?_⟩
  refine aF ay aK (JH fin (by omega) (by omega)) ?_
  rintro _ rfl
  refine zG ⟨?_⟩
  refine zF ⟨?_⟩
  refine aX 144 [1,4] [2,3,15,16,17] (⟨[(2,.pref 0 [] 0),(3,.pref 1 [] 0),(15,.sl al.length (recs aC al)),(16,.int .i64 al.length),(17,.int .i64 0)],[(0,.optr [.nils,.nils]),(1,.optr [.osl 1 fin.length (HL.bools fin),.osl 4 0 []])],2⟩:St) rfl rfl ?_
  refine aI [2,3,15,16,17] (fun k:Nat=>k<=al.length)
   (fun k=>⟨[(2,.pref 0 [] 0),(3,.pref 1 [] 0),(15,.sl al.length (recs aC al)),(16,.int .i64 al.length),(17,.int .i64 k)],[(0,.optr [.nils,.nils]),(1,.optr [.osl 1 fin.length (HL.bools fin),.osl 4 k (recs aC ((al.take k).map wW))])],2⟩)
   (fun k=>al.length - k) 0 (by omega) rfl ?_
  intro k hk
  by_cases hkl:k<al.length
  ·have hst:(al.take (k+1)).map wW=(al.take k).map wW++[wW (al.getD k default)]:=by rw [bK hkl,qj];rfl
   have hml:((al.take k).map wW).length=k:=by simp;omega
   generalize (al.take k).map wW=ml at hst hml
   refine zF ⟨?_⟩
   exact aP [2,3,15,16,17] (k+1) hkl (by omega) (by simp only [hst,wW];rfl)
  ·obtain rfl:k=al.length:=by omega
   rw [fK]
   refine az 1 [2,3,16,17] ⟨[(2,.pref 0 [] 0),(3,.ptr (stripL [.osl 1 fin.length (HL.bools fin),.osl 4 al.length (recs aC (al.map wW))]) 0),(16,.int .i64 al.length),(17,.int .i64 al.length)],[(0,.optr [.nils,.nils])],1⟩ rfl ?_
   rw [fD]
   refine zF ⟨?_⟩
   refine ae ?_
   exact ⟨_,_,rfl,rfl,by rw [ht];simp only [dE,fB,List.length_map];rfl⟩
 ·have ht:Dx fin al=([],[]):=if_neg hv
  rw [show okF fin al=false by simpa using hv]
  refine zG ⟨?_⟩
  refine zF ⟨?_⟩
  refine aX 16 [1,4] [2] (⟨[(2,.pref 0 [] 0)],[(0,.optr [.osl 1 0 [],.osl 4 0 []])],1⟩:St) rfl rfl ?_
  refine bQ 0 [2] ⟨[(2,.pref 0 [] 0)],[(0,.optr [.sl 0 [],.sl 0 []])],1⟩ rfl rfl ?_
  refine ae ?_
  exact ⟨_,_,rfl,rfl,by rw [ht];rfl⟩
section
variable {k:Nat->Bool}
end
section
variable {fin:List Bool} {al:List A}
theorem KU {fin:List Bool} {al:List A} (h1:1<=fin.length) (h2:fin.length<=2048) (h3:al.length<=8192) (h4:∀a∈al,0<=a.f/\a.f<fin.length/\0<=a.t/\a.t<fin.length /\ -1<=a.i/\a.i<64 /\ -1<=a.o/\a.o<64):okF fin al=true:=by
 simp only [okF,bC,decide_eq_true_eq,zl021]
 exact ⟨⟨h1,h2,h3⟩,fun a ha=>okA_iff.2 (h4 a ha)⟩
end
end Go.Proofs.Ytlbdmpjnmfmnfaa
end
section
namespace Go.FS
def sy (s:Int):List Int:=if s = -1 then [] else [s]
inductive Tr (al:List A):Int->List Int->List Int->Int->Prop
 | nil {p:Int}:Tr al p [] [] p
 | step {a:A} {u v:List Int} {q:Int}:a∈al->Tr al a.t u v q->Tr al a.f (sy a.i++u) (sy a.o++v) q
section
variable {al:List A}
theorem Tr.append {p q r:Int} {u v u' v':List Int} (h:Tr al p u v q) (h':Tr al q u' v' r):Tr al p (u++u') (v++v') r:=by
 induction h with
 | nil=>exact h'
 | step hb _ ih=>rw [List.append_assoc,List.append_assoc];exact .step hb (ih h')
variable {fin:List Bool} {w:List Int}
end
section
variable {fin fin':List Bool} {al al':List A} {w w':List Int}
end
def inv (a:A):A:=⟨a.f,a.o,a.i,a.t⟩
end Go.FS
end
section
namespace Go.Proofs.Ytlbdmpjnmfmnfaa
open Go.RowKit Go.HL Go.FS
theorem ac2 {F G:List Bool} {r:Int}:isFin (F++G) r <-> (isFin F r\/F.length<=r/\isFin G (r - F.length)):=by
 unfold isFin
 simp only [bH]
 constructor
 ·rintro ⟨h1,h2⟩
  by_cases h:r<F.length
  ·rw [GH (by omega)] at h2;exact .inl ⟨h1,h2⟩
  ·rw [NU (by omega)] at h2
   refine .inr ⟨by omega,by omega,?_⟩
   rw [show (r - (F.length:Int)).toNat=r.toNat - F.length by omega];exact h2
 ·rintro (⟨h1,h2⟩|⟨h0,h1,h2⟩)
  ·refine ⟨h1,?_⟩
   by_cases h:r.toNat<F.length
   ·rw [GH h];exact h2
   ·rw [qg (by omega)] at h2;cases h2
  ·refine ⟨by omega,?_⟩
   rw [NU (by omega),show r.toNat - F.length=(r - (F.length:Int)).toNat by omega];exact h2
theorem qY {F:List Bool} {r:Int} (h:isFin F r):0<=r/\r<F.length:=by
 obtain ⟨h1,h2⟩:=h
 refine ⟨h1,?_⟩
 by_cases h:r.toNat<F.length
 ·omega
 ·rw [bH,qg (by omega)] at h2;cases h2
theorem Ny {F:List Bool} {i:Int}:i∈jA F F.length <-> isFin F i:=by
 unfold jA
 simp only [zl031,zl042,zl050]
 constructor
 ·rintro ⟨j,⟨h1,h2⟩,rfl⟩;exact ⟨by omega,by simpa using h2⟩
 ·intro h
  have:=qY h
  exact ⟨i.toNat,⟨by omega,h.2⟩,by omega⟩
section
variable {p q:Tn}
theorem aeF (h:Dc [p,q]=true):okF (I9 p q).1 (I9 p q).2=true/\(I9 p q).1.length=1+p.1.length+q.1.length/\(I9 p q).2.length=2+p.2.length+q.2.length:=by
 obtain ⟨hp,hq,h1,h2⟩:=Vb h
 obtain ⟨a1,a2,a3⟩:=bY hp
 obtain ⟨b1,b2,b3⟩:=bY hq
 have e:I9 p q=([false]++(p.1++q.1),[jm 0 1,jm 0 (1+p.1.length)]++p.2.map (mg 1)++q.2.map (mg (1+p.1.length))):=by unfold I9;rw [if_pos h]
 rw [e]
 refine ⟨KU (by simp) (by simp;omega) (by simp;omega) fun a ha=>?_,by simp;omega,by simp;omega⟩
 simp only [bD,List.length_cons,List.length_nil,zl003,zl011,GM,or_false,zl031] at ha ⊢
 rcases ha with ((rfl|rfl)|⟨b,hb,rfl⟩)|⟨b,hb,rfl⟩
 ·simp only [jm];omega
 ·simp only [jm];omega
 ·have:=cu hp hb;simp only [mg];omega
 ·have:=cu hq hb;simp only [mg];omega
theorem then_ok (h:Dc [p,q]=true):okF (oJ p q).1 (oJ p q).2=true/\(oJ p q).1.length=p.1.length+q.1.length/\(oJ p q).2.length<=p.2.length+q.2.length+p.1.length:=by
 obtain ⟨hp,hq,h1,h2⟩:=Vb h
 obtain ⟨a1,a2,a3⟩:=bY hp
 obtain ⟨b1,b2,b3⟩:=bY hq
 have e:oJ p q=(List.replicate p.1.length false++q.1,p.2.map (mg 0)++q.2.map (mg p.1.length)++(jA p.1 p.1.length).map fun i=>jm i p.1.length):=by unfold oJ;rw [if_pos h]
 rw [e]
 have hfl:=nJ p.1 p.1.length
 refine ⟨KU (by simp;omega) (by simp;omega) (by simp;omega) fun a ha=>?_,by simp,by simp;omega⟩
 simp only [bD,List.length_replicate,zl003,zl031,Ny] at ha ⊢
 rcases ha with (⟨b,hb,rfl⟩|⟨b,hb,rfl⟩)|⟨i,hi,rfl⟩
 ·have:=cu hp hb;simp only [mg];omega
 ·have:=cu hq hb;simp only [mg];omega
 ·have:=qY hi;simp only [jm];omega
inductive Rep (R:List Int->List Int->Prop):List Int->List Int->Prop
 | nil:Rep R [] []
 | step {u v u' v':List Int}:R u v->Rep R u' v'->Rep R (u++u') (v++v')
theorem Rep.append {R:List Int->List Int->Prop} {u v u' v':List Int} (h:Rep R u v) (h':Rep R u' v'):Rep R (u++u') (v++v'):=by
 induction h with
 | nil=>exact h'
 | step h1 _ ih=>rw [kQ,kQ];exact .step h1 ih
theorem Za (h:Dc [p]=true):okF (og p).1 (og p).2=true/\(og p).1.length=p.1.length+1/\(og p).2.length<=1+p.2.length+p.1.length:=by
 obtain ⟨hp,h1,h2⟩:=abr h
 obtain ⟨a1,a2,a3⟩:=bY hp
 have e:og p=(true::List.replicate p.1.length false,[jm 0 1]++p.2.map (mg 1)++(jA p.1 p.1.length).map fun i=>jm (i+1) 0):=by unfold og;rw [if_pos h]
 rw [e]
 have hfl:=nJ p.1 p.1.length
 refine ⟨KU (by simp) (by simp;omega) (by simp;omega) fun a ha=>?_,by simp,by simp;omega⟩
 simp only [List.length_cons,List.length_replicate,zl003,zl011,GM,or_false,zl031,Ny] at ha ⊢
 rcases ha with (rfl|⟨b,hb,rfl⟩)|⟨i,hi,rfl⟩
 ·simp only [jm];omega
 ·have:=cu hp hb;simp only [mg];omega
 ·have:=qY hi;simp only [jm];omega
end
section
variable {fin:List Bool} {al:List A}
end
end Go.Proofs.Ytlbdmpjnmfmnfaa
end
section
namespace Go.FS
open Go.HL
abbrev Stp:=Int×Int×Nd
def stA (two:List A) (v:Nd):List Stp:=two.flatMap fun b=>if b.i = -1 then [(-1,b.o,(v.1,b.t))] else []
def stB (a:A) (two:List A):List Stp:=two.flatMap fun b=>if b.i=a.o then [(a.i,b.o,(a.t,b.t))] else []
def xM (a:A) (two:List A) (v:Nd):List Stp:=if a.o = -1 then [(a.i,-1,(a.t,v.2))] else stB a two
def LZ (one two:List A) (v:Nd):List Stp:=stA two v++one.flatMap fun a=>xM a two v
abbrev CS:=List Nd×List A
def Aq {α:Type} [DecidableEq α] (l:List α) (a:α):Nat:=l.idxOf a
theorem KE {α:Type} [DecidableEq α] {l:List α} {a:α} (h:a∈l):Aq l a<l.length:=List.idxOf_lt_length_of_mem h
theorem LH {α:Type} [DecidableEq α] {l:List α} {a:α} (h:a ∉ l):Aq (l++[a]) a=l.length:=by
 unfold Aq;rw [List.idxOf_append];simp [h]
def add1 (i:Int) (st:CS) (m:Stp):CS:=(ins m.2.2 st.1,st.2++[⟨i,m.1,m.2.1,(Aq (ins m.2.2 st.1) m.2.2:Nat)⟩])
def fG (i:Int) (st:CS) (l:List Stp):CS:=l.foldl (add1 i) st
theorem yf {i:Int} {st:CS} {l m:List Stp}:fG i st (l++m)=fG i (fG i st l) m:=by simp [fG]
theorem YV {i:Int} {st:CS}:fG i st []=st:=rfl
theorem Dh {i:Int} {st:CS} {m:Stp}:fG i st [m]=add1 i st m:=rfl
def outA (p:Int) (l:List A):List A:=l.filter fun a=>a.f==p
def iL (al bl:List A) (v:Nd):List Stp:=LZ (outA v.1 al) (outA v.2 bl) v
def IB (al bl:List A) (i:Nat) (st:CS):CS:=fG i st (iL al bl (st.1.getD i default))
def within (st:CS):Bool:=decide (st.1.length<=2048/\st.2.length<=8192)
def yJ (al bl:List A):Nat->Nat->CS->Option CS
 | 0,_,_=>none
 | f+1,i,st=>if i<st.1.length then if within (IB al bl i st)=true then yJ al bl f (i+1) (IB al bl i st) else none else some st
def FO (al bl:List A):Option CS:=yJ al bl 2100 0 ([(0,0)],[])
def gB (fs ft:List Bool) (l:List Nd):List Bool:=l.map fun v=>fs.getD v.1.toNat false&&ft.getD v.2.toNat false
theorem acx {a:Nd} {l:List Nd}:(ins a l).length<=l.length+1:=by unfold ins;split<;>simp
theorem aaE {a:Nd} {l:List Nd}:∃x,ins a l=l++x:=by
 unfold ins;split
 ·exact ⟨[],by simp⟩
 ·exact ⟨_,rfl⟩
theorem tY {i:Int}:∀ {l:List Stp} {st:CS},∃x,(fG i st l).1=st.1++x
 | [],st=>⟨[],by simp [fG]⟩
 | m::l,st=>by
  obtain ⟨x,hx⟩:=tY (i:=i) (l:=l) (st:=add1 i st m)
  obtain ⟨y,hy⟩:=aaE (a:=m.2.2) (l:=st.1)
  refine ⟨y++x,?_⟩
  show (fG i (add1 i st m) l).1=_
  rw [hx,<- kQ,<- hy];rfl
theorem qZ {i:Int}:∀ {l:List Stp} {st:CS},(fG i st l).2.length=st.2.length+l.length/\(fG i st l).1.length<=st.1.length+l.length
 | [],st=>by simp [fG]
 | m::l,st=>by
  have h:=qZ (i:=i) (l:=l) (st:=add1 i st m)
  have h2:=acx (a:=m.2.2) (l:=st.1)
  have e:fG i st (m::l)=fG i (add1 i st m) l:=rfl
  rw [e]
  simp only [add1,bD,List.length_cons,List.length_nil] at h ⊢
  omega
theorem Gh {i:Int}:∀ {l:List Stp} {st:CS},st.1.Nodup->(fG i st l).1.Nodup
 | [],_,h=>h
 | m::l,st,h=>Gh (l:=l) (st:=add1 i st m) (ins_nodup h)
def Q4 (n m:Nat) (v:Nd):Prop:=0<=v.1/\v.1<n/\0<=v.2/\v.2<m
theorem LQ {n m:Nat} {i:Int}:∀ {l:List Stp} {st:CS},(∀v∈st.1,Q4 n m v)->(∀x∈l,Q4 n m x.2.2)->∀v∈(fG i st l).1,Q4 n m v
 | [],_,h,_=>h
 | x::l,st,h,hl=>LQ (l:=l) (st:=add1 i st x) (fun v hv=>by
   rcases mem_ins.1 hv with rfl|hv
   ·exact hl x (by simp)
   ·exact h v hv) fun y hy=>hl y (by simp [hy])
theorem mem_stB {a:A} {two:List A} {x:Stp}:x∈stB a two <-> ∃b∈two,b.i=a.o/\x=(a.i,b.o,(a.t,b.t)):=by
 simp only [stB,zl065]
 constructor
 ·rintro ⟨b,hb,h⟩
  split at h
  ·rename_i e;exact ⟨b,hb,e,by simpa using h⟩
  ·cases h
 ·rintro ⟨b,hb,e,rfl⟩;exact ⟨b,hb,by simp [e]⟩
theorem mem_stps {one two:List A} {v:Nd} {x:Stp}:x∈LZ one two v <-> (∃b∈two,b.i = -1/\x=(-1,b.o,(v.1,b.t)))\/(∃a∈one,a.o = -1/\x=(a.i,-1,(a.t,v.2)))\/(∃a∈one,∃b∈two,a.o ≠ -1/\b.i=a.o/\x=(a.i,b.o,(a.t,b.t))):=by
 simp only [LZ,zl003,stA,zl065]
 constructor
 ·rintro (⟨b,hb,h⟩|⟨a,ha,h⟩)
  ·split at h
   ·rename_i e;exact .inl ⟨b,hb,e,by simpa using h⟩
   ·cases h
  ·unfold xM at h
   split at h
   ·rename_i e;exact .inr (.inl ⟨a,ha,e,by simpa using h⟩)
   ·rename_i e
    obtain ⟨b,hb,h1,h2⟩:=mem_stB.1 h
    exact .inr (.inr ⟨a,ha,b,hb,e,h1,h2⟩)
 ·rintro (⟨b,hb,e,rfl⟩|⟨a,ha,e,rfl⟩|⟨a,ha,b,hb,e,h1,rfl⟩)
  ·exact .inl ⟨b,hb,by simp [e]⟩
  ·exact .inr ⟨a,ha,by simp [xM,e]⟩
  ·exact .inr ⟨a,ha,by rw [xM,if_neg e];exact mem_stB.2 ⟨b,hb,h1,rfl⟩⟩
theorem mem_outA {p:Int} {l:List A} {a:A}:a∈outA p l <-> a∈l/\a.f=p:=by simp [outA]
theorem Au {n m:Nat} {al bl:List A} {v:Nd} (ha:∀a∈al,0<=a.t/\a.t<n) (hb:∀b∈bl,0<=b.t/\b.t<m) (hv:Q4 n m v):∀x∈iL al bl v,Q4 n m x.2.2:=by
 intro x hx
 obtain ⟨h1,h2,h3,h4⟩:=hv
 rcases mem_stps.1 hx with ⟨b,h,_,rfl⟩|⟨a,h,_,rfl⟩|⟨a,h,b,h',_,_,rfl⟩
 ·have:=hb b (mem_outA.1 h).1;exact ⟨h1,h2,this.1,this.2⟩
 ·have:=ha a (mem_outA.1 h).1;exact ⟨this.1,this.2,h3,h4⟩
 ·have h5:=ha a (mem_outA.1 h).1;have h6:=hb b (mem_outA.1 h').1;exact ⟨h5.1,h5.2,h6.1,h6.2⟩
theorem OY {two:List A} {v:Nd} {k:Nat} (h:k<two.length):stA (two.take (k+1)) v=stA (two.take k) v++if (two.getD k default).i = -1 then [(-1,(two.getD k default).o,(v.1,(two.getD k default).t))] else []:=by
 simp only [stA,vV,bM h,F9,PP,List.flatMap_cons,List.flatMap_nil,List.append_nil,bH,kC]
theorem Og {a:A} {two:List A} {k:Nat} (h:k<two.length):stB a (two.take (k+1))=stB a (two.take k)++if (two.getD k default).i=a.o then [(a.i,(two.getD k default).o,(a.t,(two.getD k default).t))] else []:=by
 simp only [stB,vV,bM h,F9,PP,List.flatMap_cons,List.flatMap_nil,List.append_nil,bH,kC]
theorem Pe {one two:List A} {v:Nd} {k:Nat} (h:k<one.length):((one.take (k+1)).flatMap fun a=>xM a two v)=((one.take k).flatMap fun a=>xM a two v)++xM (one.getD k default) two v:=by
 simp only [vV,bM h,F9,PP,List.flatMap_cons,List.flatMap_nil,List.append_nil,bH,kC]
theorem Ec {α β:Type} {f:α->List β} (h:∀a,(f a).length<=1):∀l:List α,(l.flatMap f).length<=l.length
 | []=>by simp
 | b::l=>by
  have h1:=h b
  have h2:=Ec h l
  simp only [List.flatMap_cons,bD,List.length_cons];omega
theorem Fz {two:List A} {v:Nd}:(stA two v).length<=two.length:=Ec (fun b=>by split<;>simp) two
theorem Kz {a:A} {two:List A}:(stB a two).length<=two.length:=Ec (fun b=>by split<;>simp) two
theorem ZR {a:A} {two:List A} {v:Nd}:(xM a two v).length<=two.length+1:=by
 unfold xM;split
 ·simp
 ·exact jc Kz (by omega)
theorem Ff {one two:List A} {v:Nd}:(one.flatMap fun a=>xM a two v).length<=one.length*(two.length+1):=by
 induction one with
 | nil=>simp
 | cons b l ih =>
  have:=ZR (a:=b) (two:=two) (v:=v)
  simp only [List.flatMap_cons,bD,List.length_cons]
  rw [lg];omega
end Go.FS
end
