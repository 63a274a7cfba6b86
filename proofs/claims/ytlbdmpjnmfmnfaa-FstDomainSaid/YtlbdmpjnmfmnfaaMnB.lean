import Derived.Test.YtlbdmpjnmfmnfaaFt9
import Derived.Test.YtlbdmpjnmfmnfaaHlFi
import Derived.Test.YtlbdmpjnmfmnfaaHlLo
import Derived.Test.YtlbdmpjnmfmnfaaHlW
import Derived.Test.YtlbdmpjnmfmnfaaFwD
import Derived.Test.YtlbdmpjnmfmnfaaMnP
import Derived.Test.YtlbdmpjnmfmnfaaMnA
set_option linter.unusedSimpArgs false
set_option linter.unusedVariables false
set_option linter.unnecessarySimpa false
set_option linter.unusedSectionVars false
section
namespace Go.Proofs.Ytlbdmpjnmfmnfaa
open Go.RowKit Go.HL Go.FS
theorem lD {d:Dz} (h:okD d=true):1<=d.sz/\d.sz<=64/\1<=d.nx.length/\d.nx.length<=2048/\d.fn.length=d.nx.length:=by
 simp only [okD,aZ,decide_eq_true_eq] at h;exact h.1
theorem mO {d:Dz} (h:okD d=true) {i:Nat} (hi:i<d.nx.length):((d.nx.getD i []).length:Int)=d.sz/\∀s,s<(d.nx.getD i []).length->0<=(d.nx.getD i []).getD s 0/\(d.nx.getD i []).getD s 0<d.nx.length:=by
 simp only [okD,aZ,zl016] at h
 have hm:d.nx.getD i []∈d.nx:=by rw [bf,bn hi];exact iD hi
 have h2:=h.2 _ hm
 simp only [rowOk,aZ,decide_eq_true_eq,zl016] at h2
 refine ⟨h2.1,fun s hs=>?_⟩
 have hm2:(d.nx.getD i []).getD s 0∈d.nx.getD i []:=by
  have e:(d.nx.getD i []).getD s 0=(d.nx.getD i [])[s]:=by rw [bf,bn hs];rfl
  rw [e];exact iD hs
 have:=h2.2 _ hm2
 simpa only [AO,decide_eq_true_eq] using this
end Go.Proofs.Ytlbdmpjnmfmnfaa
end
section
namespace Go.MN
def fst (c:Nat->Nat) (n k:Nat):Nat:=((List.range n).find? fun i=>c i==k).getD 0
theorem Dt {c:Nat->Nat} {n i:Nat} (h:i<n):fst c n (c i)<n/\c (fst c n (c i))=c i:=by
 unfold fst
 cases e:(List.range n).find? fun j=>c j==c i with
 | none =>
  have:=List.find?_eq_none.1 e i (List.mem_range.2 h)
  simp at this
 | some j =>
  have h1:=List.find?_some e
  have h2:=List.mem_of_find?_eq_some e
  exact ⟨List.mem_range.1 h2,by simpa using h1⟩
def aI (nx:Nat->List Nat) (c:Nat->Nat) (n k s:Nat):Nat:=c ((nx (fst c n k)).getD s 0)
def MinOf (nx:Nat->List Nat) (fn:Nat->Bool) (n sz:Nat) (rows:List (List Nat)) (fin:List Bool):Prop :=
 ∃c m N,Cls nx fn n c m/\Done (aI nx c n) sz (c 0) N/\rows=(aK (aI nx c n) sz (c 0) N).2/\fin=(aK (aI nx c n) sz (c 0) N).1.map fun k=>fn (fst c n k)
def Yg (rows:List (List Nat)) (q:Nat) (u:List Nat):Nat:=u.foldl (fun q s=>(rows.getD q []).getD s 0) q
def MF (nx:Nat->List Nat) (q:Nat) (u:List Nat):Nat:=u.foldl (fun q s=>(nx q).getD s 0) q
theorem Vd (rows:List (List Nat)) (q s:Nat) (u:List Nat):Yg rows q (u++[s])=(rows.getD (Yg rows q u) []).getD s 0:=by simp [Yg]
theorem CX (nx:Nat->List Nat) (q s:Nat) (u:List Nat):MF nx q (u++[s])=(nx (MF nx q u)).getD s 0:=by simp [MF]
section
variable {nx:Nat->List Nat} {fn:Nat->Bool} {n sz:Nat} {rows rows':List (List Nat)} {fin fin':List Bool}
theorem MinOf.unique (h:MinOf nx fn n sz rows fin) (h':MinOf nx fn n sz rows' fin'):rows'=rows/\fin'=fin:=by
 obtain ⟨c,m,N,h1,h2,rfl,rfl⟩:=h
 obtain ⟨c',m',N',g1,g2,rfl,rfl⟩:=h'
 obtain ⟨rfl,_⟩:=h1.unique g1
 rw [h2.unique g2]
 exact ⟨rfl,rfl⟩
structure Ok (nx:Nat->List Nat) (n sz:Nat):Prop where
 pos:0<n
 len:∀i,i<n->(nx i).length=sz
 lt:∀i,i<n->∀x∈nx i,x<n
theorem Ok.get (ok:Ok nx n sz) {i s:Nat} (hi:i<n) (hs:s<sz):(nx i).getD s 0<n:=by
 have hl:=ok.len i hi
 rw [List.getD_eq_getElem?_getD,List.getElem?_eq_getElem (by omega)]
 exact ok.lt i hi _ (List.getElem_mem _)
theorem wH {c:Nat->Nat} {m i s:Nat} (ok:Ok nx n sz) (h:Cls nx fn n c m) (hi:i<n) (hs:s<sz):aI nx c n (c i) s=c ((nx i).getD s 0):=by
 obtain ⟨h1,h2⟩:=Dt (c:=c) hi
 have e:=h.next ok.lt h1 hi h2
 have l1:=ok.len _ h1
 have l2:=ok.len _ hi
 have e2:=congrArg (fun l:List Nat=>l[s]?) e
 simp only [List.getElem?_map,List.getElem?_eq_getElem (show s<(nx (fst c n (c i))).length by omega),List.getElem?_eq_getElem (show s<(nx i).length by omega),Option.map_some,Option.some.injEq] at e2
 unfold aI
 rw [List.getD_eq_getElem?_getD,List.getElem?_eq_getElem (show s<(nx (fst c n (c i))).length by omega),List.getD_eq_getElem?_getD,List.getElem?_eq_getElem (show s<(nx i).length by omega)]
 exact e2
theorem Ig {c:Nat->Nat} {m:Nat} (ok:Ok nx n sz) (h:Cls nx fn n c m) (i:Nat):∀x∈(aK (aI nx c n) sz (c 0) i).1,∃q,q<n/\c q=x:=by
 refine DU ⟨0,ok.pos,rfl⟩ (fun x t ⟨q,hq,e⟩ ht=>?_) ⟨0,ok.pos,h.zero ok.pos⟩ i
 rw [<- e,wH ok h hq ht]
 exact ⟨_,ok.get hq ht,rfl⟩
theorem y5 {c:Nat->Nat} {m:Nat} (ok:Ok nx n sz) (h:Cls nx fn n c m) (i:Nat):(aK (aI nx c n) sz (c 0) i).1.length<=n:=by
 have hn:=nG (δ:=aI nx c n) (sz:=sz) (a:=c 0) i
 have hb:∀x∈(aK (aI nx c n) sz (c 0) i).1,x<n:=fun x hx=>by
  obtain ⟨q,hq,rfl⟩:=Ig ok h i x hx
  have:=h.lt hq;have:=h.le;omega
 have:∀ (l:List Nat) (n:Nat),l.Nodup->(∀x∈l,x<n)->l.length<=n:=by
  intro l n
  induction n generalizing l with
  | zero =>
   intro _ hx
   cases l with
   | nil=>simp
   | cons a l=>exact absurd (hx a (by simp)) (by omega)
  | succ n ih =>
   intro hn hx
   have h1:=ih (l.erase n) (hn.erase n) fun x hx'=>by
    have h2:=(hn.mem_erase_iff).1 hx'
    have:=hx x h2.2
    have:=h2.1
    omega
   by_cases hm:n∈l
   ·rw [List.length_erase_of_mem hm] at h1;omega
   ·rw [List.erase_of_not_mem hm] at h1;omega
 exact this _ n hn hb
theorem MinOf.len (ok:Ok nx n sz) (h:MinOf nx fn n sz rows fin):0<rows.length/\rows.length<=n/\fin.length=rows.length/\∀row∈rows,row.length=sz/\∀x∈row,x<rows.length:=by
 obtain ⟨c,m,N,h1,h2,rfl,rfl⟩:=h
 have hl:(aK (aI nx c n) sz (c 0) N).2.length=N:=gG N
 refine ⟨by rw [hl];exact h2.pos,by rw [hl,<- h2.1];exact y5 ok h1 N,by simp [hl,h2.1],fun row hrow=>?_⟩
 obtain ⟨i,hi,rfl⟩:=List.getElem_of_mem hrow
 rw [hl] at hi
 have hlen:((aK (aI nx c n) sz (c 0) N).2[i]'(by rw [hl];exact hi)).length=sz:=by
  by_cases h0:0<sz
  ·obtain ⟨x,row,k,_,e2,e3,_⟩:=h2.row hi h0
   rw [List.getElem?_eq_getElem (by rw [hl];exact hi)] at e2
   rw [Option.some.inj e2,e3]
  ·
   obtain ⟨r,q,_,e2⟩:=sW (δ:=aI nx c n) (sz:=sz) (a:=c 0) (i:=i+1) (j:=N) (by omega)
   have e3:(aK (aI nx c n) sz (c 0) (i+1)).2=(aK (aI nx c n) sz (c 0) i).2++[(scan (aI nx c n) ((aK (aI nx c n) sz (c 0) i).1.getD i default) (aK (aI nx c n) sz (c 0) i).1 sz).2]:=rfl
   have e4:(aK (aI nx c n) sz (c 0) N).2[i]?=some (scan (aI nx c n) ((aK (aI nx c n) sz (c 0) i).1.getD i default) (aK (aI nx c n) sz (c 0) i).1 sz).2:=by
    rw [e2,e3,List.getElem?_append_left (by simp [gG]),List.getElem?_append_right (by simp [gG]),gG];simp
   rw [List.getElem?_eq_getElem (by rw [hl];exact hi)] at e4
   rw [Option.some.inj e4,kX]
 refine ⟨hlen,fun x hx=>?_⟩
 obtain ⟨t,ht,rfl⟩:=List.getElem_of_mem hx
 rw [hlen] at ht
 obtain ⟨y,row,k,_,e2,e3,e4,e5⟩:=h2.row hi ht
 rw [List.getElem?_eq_getElem (by rw [hl];exact hi)] at e2
 have e6:=Option.some.inj e2
 have hk:=(List.getElem?_eq_some_iff.1 e5).1
 rw [h2.1] at hk
 rw [hl]
 have e7:((aK (aI nx c n) sz (c 0) N).2[i]'(by rw [hl];exact hi))[t]?=some k:=by rw [e6];exact e4
 rw [List.getElem?_eq_getElem (by omega)] at e7
 rw [Option.some.inj e7]
 exact hk
theorem MinOf.lang (ok:Ok nx n sz) (h:MinOf nx fn n sz rows fin) {u:List Nat} (hu:∀t∈u,t<sz):Yg rows 0 u<rows.length/\fin.getD (Yg rows 0 u) false=fn (MF nx 0 u):=by
 obtain ⟨c,m,N,h1,h2,rfl,rfl⟩:=h
 have hl:(aK (aI nx c n) sz (c 0) N).2.length=N:=gG N
 have key:∀ (k:Nat) (u:List Nat),u.length=k->(∀t∈u,t<sz)->MF nx 0 u<n/\(aK (aI nx c n) sz (c 0) N).1[Yg (aK (aI nx c n) sz (c 0) N).2 0 u]?=some (c (MF nx 0 u)):=by
  intro k
  induction k with
  | zero =>
   intro u hu _
   obtain rfl:=List.eq_nil_of_length_eq_zero hu
   exact ⟨ok.pos,h2.first⟩
  | succ k ih =>
   intro u hu ha
   have hne:u≠[]:=fun e=>by rw [e] at hu;simp at hu
   obtain ⟨v,t,rfl⟩:∃v t,u=v++[t]:=⟨u.dropLast,u.getLast hne,(List.dropLast_concat_getLast hne).symm⟩
   obtain ⟨g1,g2⟩:=ih v (by simpa using hu) fun x hx=>ha x (by simp [hx])
   have ht:t<sz:=ha t (by simp)
   rw [CX,Vd]
   refine ⟨ok.get g1 ht,?_⟩
   have hi:Yg (aK (aI nx c n) sz (c 0) N).2 0 v<N:=by
    have:=(List.getElem?_eq_some_iff.1 g2).1
    rwa [h2.1] at this
   obtain ⟨x,row,k,e1,e2,e3,e4,e5⟩:=h2.row hi ht
   rw [g2] at e1
   have e6:=Option.some.inj e1
   rw [List.getD_eq_getElem?_getD (l:=(aK (aI nx c n) sz (c 0) N).2),e2,Option.getD_some,List.getD_eq_getElem?_getD,e4,Option.getD_some,e5,<- e6,wH ok h1 g1 ht]
 obtain ⟨g1,g2⟩:=key _ u rfl hu
 have hi:=(List.getElem?_eq_some_iff.1 g2).1
 refine ⟨by rw [h2.1] at hi;rw [hl];exact hi,?_⟩
 rw [List.getD_eq_getElem?_getD,List.getElem?_map,g2,Option.map_some,Option.getD_some]
 obtain ⟨f1,f2⟩:=Dt (c:=c) g1
 exact h1.fin f1 g1 f2
end
end Go.MN
end
section
namespace Go.Proofs.Ytlbdmpjnmfmnfaa
open Go.RowKit Go.HL Go.FS Go.MN
def bK (d:Dz) (i:Nat):List Nat:=(d.nx.getD i []).map Int.toNat
def iW (d:Dz) (i:Nat):Bool:=d.fn.getD i false
def jm (n:Nat) (c:Nat->Nat):List Int:=(List.range n).map fun i=>(c i:Int)
theorem Y8 (n:Nat) (c:Nat->Nat):(jm n c).length=n:=by simp [jm]
theorem U7 {n i:Nat} (c:Nat->Nat) (h:i<n):(HL.ints (jm n c)).getD i .dead=.int .i64 (c i):=by simp [HL.ints,jm,h]
attribute [go_sem] Y8
def uu (c:Nat->Nat) (l:List Nat):List Int:=l.flatMap fun k=>kb (c k)
def qF (d:Dz) (c:Nat->Nat) (i:Nat):List Int:=if iW d i then kb (c i)++[1] else kb (c i)
def GH (d:Dz) (c:Nat->Nat) (i:Nat):List Int:=qF d c i++uu c (bK d i)
def dY (d:Dz) (c:Nat->Nat) (i:Nat):List UInt8:=Ob (GH d c i)
theorem tN (c:Nat->Nat) (l:List Nat):(uu c l).length=3*l.length:=by
 induction l with
 | nil=>rfl
 | cons a l ih=>simp only [uu,List.flatMap_cons,dQ,VW,List.length_cons] at ih ⊢;omega
theorem zX (d:Dz) (c:Nat->Nat) (i:Nat):(qF d c i).length=if iW d i then 4 else 3:=by unfold qF;split<;>simp [kb]
theorem YH (c:Nat->Nat) (l:List Nat):∀x∈uu c l,0<=x/\x<256:=by
 intro x hx
 obtain ⟨k,_,h⟩:=zl055.1 hx
 exact Xv _ x h
theorem WX (d:Dz) (c:Nat->Nat) (i:Nat):∀x∈qF d c i,0<=x/\x<256:=by
 intro x hx
 unfold qF at hx
 split at hx
 ·rcases zl002.1 hx with h|h
  ·exact Xv _ x h
  ·rw [zl009.1 h];omega
 ·exact Xv _ x hx
theorem Ro (d:Dz) (c:Nat->Nat) (i:Nat):∀x∈GH d c i,0<=x/\x<256:=by
 intro x hx
 rcases zl002.1 hx with h|h
 ·exact WX d c i x h
 ·exact YH c _ x h
theorem Ov {c:Nat->Nat}:∀ {l m:List Nat},(∀x∈l,c x<16777216)->(∀x∈m,c x<16777216)->uu c l=uu c m->l.map c=m.map c
 | [],[],_,_,_=>rfl
 | [],b::m,_,_,h=>by have:=congrArg List.length h;rw [tN,tN] at this;simp at this
 | a::l,[],_,_,h=>by have:=congrArg List.length h;rw [tN,tN] at this;simp at this
 | a::l,b::m,h1,h2,h=>by
  have h':kb (c a)++uu c l=kb (c b)++uu c m:=by simpa [uu] using h
  obtain ⟨e1,e2⟩:=List.append_inj h' rfl
  have ea:=h1 a (by simp)
  have eb:=h2 b (by simp)
  have e3:=VS (by omega) (by omega) (by omega) (by omega) e1
  rw [dP,dP,Ov (fun x hx=>h1 x (by simp [hx])) (fun x hx=>h2 x (by simp [hx])) e2]
  congr 1
  omega
theorem vN {d:Dz} (hv:okD d=true):Ok (bK d) d.nx.length d.sz.toNat:=by
 obtain ⟨h1,h2,h3,h4,h5⟩:=lD hv
 refine ⟨h3,fun i hi=>?_,fun i hi x hx=>?_⟩
 ·have:=(mO hv hi).1
  simp only [bK,List.length_map];omega
 ·obtain ⟨y,hy,rfl⟩:=zl020.1 hx
  obtain ⟨s,hs,rfl⟩:=uD hy
  have:=(mO hv hi).2 s hs
  rw [bf,bn hs,fV] at this
  omega
theorem Kr {d:Dz} (hv:okD d=true) {c:Nat->Nat} (hc:∀i,i<d.nx.length->c i<16777216) {i j:Nat} (hi:i<d.nx.length) (hj:j<d.nx.length):dY d c i=dY d c j <-> sig (bK d) (iW d) c i=sig (bK d) (iW d) c j:=by
 have ok:=vN hv
 have li:=ok.len i hi
 have lj:=ok.len j hj
 constructor
 ·intro h
  have h1:=Sr (Ro d c i) (Ro d c j) h
  have hl:=congrArg List.length h1
  simp only [GH,dQ,zX,tN,li,lj] at hl
  have hf:iW d i=iW d j:=by
   cases h2:iW d i<;>cases h3:iW d j<;>rw [h2,h3] at hl<;>simp at hl ⊢
  obtain ⟨e1,e2⟩:=List.append_inj h1 (by rw [zX,zX,hf])
  have e3:=Ov (fun x hx=>hc x (ok.lt i hi x hx)) (fun x hx=>hc x (ok.lt j hj x hx)) e2
  have e4:kb (c i)=kb (c j):=by
   unfold qF at e1
   rw [hf] at e1
   split at e1
   ·exact (List.append_inj e1 rfl).1
   ·exact e1
  have a1:=hc i hi
  have a2:=hc j hj
  have e5:=VS (by omega) (by omega) (by omega) (by omega) e4
  simp only [sig,jg]
  exact ⟨by omega,hf,e3⟩
 ·intro h
  simp only [sig,jg] at h
  obtain ⟨h1,h2,h3⟩:=h
  have e:∀l m:List Nat,l.map c=m.map c->uu c l=uu c m:=by
   intro l
   induction l with
   | nil=>intro m h;cases m with
    | nil=>rfl
    | cons b m=>cases h
   | cons a l ih =>
    intro m h
    cases m with
    | nil=>cases h
    | cons b m =>
     simp only [dP,vk] at h
     have:=ih m h.2
     simp only [uu,List.flatMap_cons] at this ⊢
     rw [h.1,this]
  unfold dY GH qF
  rw [h1,h2,e _ _ h3]
theorem Q7 {d:Dz} (hv:okD d=true) {k:Nat} (hc:∀i,i<d.nx.length->rnd (bK d) (iW d) d.nx.length k i<16777216):(∀i,i<d.nx.length->num (dY d (rnd (bK d) (iW d) d.nx.length k)) d.nx.length i=rnd (bK d) (iW d) d.nx.length (k+1) i)/\(firsts (dY d (rnd (bK d) (iW d) d.nx.length k)) d.nx.length).length=MN.cnt (bK d) (iW d) d.nx.length (k+1) :=
 ⟨fun i hi=>Tj (fun i j hi hj=>Kr hv hc hi hj) hi,(rX (fun i j hi hj=>Kr hv hc hi hj) _ (aY _)).1⟩
theorem JC (nx:Nat->List Nat) (fn:Nat->Bool) {n k i:Nat} (hi:i<n):rnd nx fn n k i<=n:=by
 cases k with
 | zero=>exact dS _
 | succ k=>have:=Po (nx:=nx) (fn:=fn) (k:=k) hi;have:=MN.cnt_le (nx:=nx) (fn:=fn) (n:=n) (k+1);omega
end Go.Proofs.Ytlbdmpjnmfmnfaa
end
