import Derived.Test.YtlbdmpjnmfmnfaaHl2
import Derived.Orders
set_option linter.unusedSimpArgs false
set_option linter.unusedVariables false
section
namespace Go.HL
open Go.RowKit
mutual
def HV.deep:HV->List Nat
 | .ref i _ _ _ _=>[i]
 | .pref i _ _=>[i]
 | .sl _ cs=>bz cs
 | .osl _ _ cs=>bz cs
 | .ptr cs _=>bz cs
 | .optr cs=>bz cs
 | .agg cs=>bz cs
 | .tup cs=>bz cs
 | .fn _ cs=>bz cs
 | .rmap _ _ cs=>bz cs
 | .omap _ _ cs=>bz cs
 | .mref i _=>[i]
 | _=>[]
def bz:List HV->List Nat
 | []=>[]
 | v::r=>v.deep++bz r
end
def HV.inn (p:Nat->Prop) (v:HV):Prop:=∀x∈v.deep,p x
def innL (p:Nat->Prop) (l:List HV):Prop:=∀v∈l,v.inn p
theorem mem_deepL {x:Nat} {l:List HV}:x∈bz l <-> ∃v∈l,x∈v.deep:=by
 induction l with
 | nil=>simp [bz]
 | cons v r ih=>simp [bz,ih]
theorem innL_iff {p:Nat->Prop} {l:List HV}:innL p l <-> ∀x∈bz l,p x:=by
 unfold innL HV.inn
 constructor
 ·intro h x hx
  obtain ⟨v,hv,hx⟩:=mem_deepL.1 hx
  exact h v hv x hx
 ·intro h v hv x hx
  exact h x (mem_deepL.2 ⟨v,hv,hx⟩)
section
variable {p:Nat->Prop}
@[simp] theorem jr {k n}:(HV.int k n).inn p:=by simp [HV.inn,HV.deep]
@[simp] theorem lw {b}:(HV.bool b).inn p:=by simp [HV.inn,HV.deep]
@[simp] theorem OJ {b}:(HV.str b).inn p:=by simp [HV.inn,HV.deep]
@[simp] theorem Yj:HV.nils.inn p:=by simp [HV.inn,HV.deep]
@[simp] theorem YR:HV.nilp.inn p:=by simp [HV.inn,HV.deep]
@[simp] theorem UK:HV.nilf.inn p:=by simp [HV.inn,HV.deep]
@[simp] theorem dE:HV.dead.inn p:=by simp [HV.inn,HV.deep]
@[simp] theorem zD {i q sz o n}:(HV.ref i q sz o n).inn p <-> p i:=by simp [HV.inn,HV.deep]
@[simp] theorem sH {i q o}:(HV.pref i q o).inn p <-> p i:=by simp [HV.inn,HV.deep]
@[simp] theorem KO {n cs}:(HV.sl n cs).inn p <-> innL p cs:=by rw [innL_iff];rfl
@[simp] theorem qG {sz n cs}:(HV.osl sz n cs).inn p <-> innL p cs:=by rw [innL_iff];rfl
@[simp] theorem vK {n cs}:(HV.ptr cs n).inn p <-> innL p cs:=by rw [innL_iff];rfl
@[simp] theorem AB {cs}:(HV.optr cs).inn p <-> innL p cs:=by rw [innL_iff];rfl
@[simp] theorem ou {cs}:(HV.agg cs).inn p <-> innL p cs:=by rw [innL_iff];rfl
@[simp] theorem tX {cs}:(HV.tup cs).inn p <-> innL p cs:=by rw [innL_iff];rfl
@[simp] theorem wL {f cs}:(HV.fn f cs).inn p <-> innL p cs:=by rw [innL_iff];rfl
@[simp] theorem XZ:HV.nilm.inn p:=by simp [HV.inn,HV.deep]
@[simp] theorem XL {b s l c}:(HV.oitr b s l c).inn p:=by simp [HV.inn,HV.deep]
@[simp] theorem sK {i q}:(HV.mref i q).inn p <-> p i:=by simp [HV.inn,HV.deep]
@[simp] theorem wP {m ks cs}:(HV.rmap m ks cs).inn p <-> innL p cs:=by rw [innL_iff];rfl
@[simp] theorem nJ {m ks cs}:(HV.omap m ks cs).inn p <-> innL p cs:=by rw [innL_iff];rfl
@[simp] theorem Ap:innL p []:=by simp [innL]
@[simp] theorem bf {v l}:innL p (v::l) <-> v.inn p/\innL p l:=by simp [innL]
@[simp] theorem vC {l l'}:innL p (l++l') <-> innL p l/\innL p l':=by
 simp only [innL,List.mem_append]
 exact ⟨fun h=>⟨fun v hv=>h v (.inl hv),fun v hv=>h v (.inr hv)⟩,fun h v hv=>hv.elim (h.1 v) (h.2 v)⟩
theorem innL.take {l} (h:innL p l) (n:Nat):innL p (l.take n):=fun v hv=>h v (List.mem_of_mem_take hv)
theorem innL.drop {l} (h:innL p l) (n:Nat):innL p (l.drop n):=fun v hv=>h v (List.mem_of_mem_drop hv)
theorem innL.win {l} (h:innL p l) (a b:Nat):innL p (win l a b):=by
 unfold HL.win;split
 ·exact h
 ·exact (h.drop _).take _
theorem innL.getD {l} (h:innL p l) (n:Nat):(l.getD n .dead).inn p:=by
 rw [List.getD_eq_getElem?_getD]
 cases hn:l[n]? with
 | none=>simp
 | some v=>exact h v (List.mem_of_getElem? hn)
theorem innL.set {l} (h:innL p l) (n:Nat) {v:HV} (hv:v.inn p):innL p (l.set n v):=fun u hu=>by
 rcases List.mem_or_eq_of_mem_set hu with hu|rfl
 ·exact h u hu
 ·exact hv
theorem kE {v:HV} (h:v.inn p) (q:List Nat):(aQ v q).inn p:=by
 induction q generalizing v with
 | nil=>simpa [aQ] using h
 | cons j q ih =>
  cases v<;>simp only [aQ,dE]
  ·exact ih (innL.getD (by simpa using h) j)
  ·exact ih (innL.getD (by simpa using h) j)
  ·exact ih (innL.getD (by simpa using h) j)
theorem uf {x v:HV} (hx:x.inn p) (h:v.inn p) (q:List Nat):(dJ x v q).inn p:=by
 induction q generalizing v with
 | nil=>simpa [dJ] using hx
 | cons j q ih =>
  cases v<;>simp only [dJ]<;>(first|exact h|skip)
  ·simp only [qG] at h ⊢
   exact h.set j (ih (h.getD j))
  ·simp only [AB] at h ⊢
   exact h.set j (ih (h.getD j))
  ·simp only [nJ] at h ⊢
   exact h.set j (ih (h.getD j))
theorem wC {v:HV} (h:v.inn p):innL p (bH v):=by cases v<;>simp_all [bH]
theorem CV {v:HV} {cs:List HV} (h:v.inn p) (hc:innL p cs):(dH cs v).inn p:=by cases v<;>simp_all [dH]
theorem qA {cs l:List HV} (h:innL p cs) (hl:innL p l) (o:Nat):innL p (setFrom cs o l):=by
 induction l generalizing cs o with
 | nil=>simpa [setFrom] using h
 | cons v r ih =>
  simp only [bf] at hl
  exact ih (h.set o hl.1) hl.2 (o+1)
theorem qW {v:HV} (h:v.inn p):innL p (cellsOf v):=by
 unfold cellsOf;split
 ·simpa using h
 ·simpa using h
theorem Az {v:HV} {id j:Nat} {q:List Nat} (hi:p id) (h:v.inn p):(look id q j v).inn p:=by
 unfold look
 split<;>(try split)<;>first|exact dE|exact h|simpa using hi
theorem Bd {zs:List HV} {ps:List (Nat×Nat×HV)} (h:innL p zs) (hp:∀q∈ps,q.2.2.inn p):innL p (kJ zs ps).1:=by
 induction ps generalizing zs with
 | nil=>exact h
 | cons q r ih =>
  obtain ⟨o,sz,v⟩:=q
  simp only [kJ]
  exact ih (qA h (qW (hp (o,sz,v) (by simp))) o) fun q hq=>hp q (by simp [hq])
def Ov (p:Nat->Prop):Upd->Prop
 | .put id t=>p id/\t.inn p
 | .kill ..=>True
def iQ:List Upd->List Nat
 | []=>[]
 | .put id _::r=>id::iQ r
 | .kill ..::r=>iQ r
theorem Aq (a b:List Upd):iQ (a++b)=iQ a++iQ b:=by
 induction a with
 | nil=>rfl
 | cons u a ih=>cases u<;>simp [iQ,ih]
theorem Oe {L:Lk} {us:List Upd} (h:∀id,(L id).inn p) (hu:∀u∈us,Ov p u) (id:Nat):(Lk.upd L us id).inn p:=by
 induction us generalizing L with
 | nil=>exact h id
 | cons u us ih =>
  cases u with
  | put i t =>
   refine ih (L:=fun j=>if j=i then t else L j) (fun j=>?_) fun u hu'=>hu u (by simp [hu'])
   split
   ·exact (hu (.put i t) (by simp)).2
   ·exact h j
  | kill i n=>exact ih h fun u hu'=>hu u (by simp [hu'])
theorem lh {L:Lk} {us:List Upd} {id:Nat} (h:id ∉ iQ us):Lk.upd L us id=L id:=by
 induction us generalizing L with
 | nil=>rfl
 | cons u us ih =>
  cases u with
  | put i t =>
   simp only [iQ,List.mem_cons,not_or] at h
   simp only [Lk.upd]
   rw [ih h.2,if_neg h.1]
  | kill i n=>exact ih h
theorem uM {L L':Lk} {us:List Upd} {id:Nat} (h:id∈iQ us\/L id=L' id):Lk.upd L us id=Lk.upd L' us id:=by
 induction us generalizing L L' with
 | nil=>rcases h with h|h;cases h;exact h
 | cons u us ih =>
  cases u with
  | put i t =>
   simp only [Lk.upd]
   refine ih ?_
   simp only [iQ,List.mem_cons] at h
   by_cases hi:id=i
   ·right;simp [hi]
   ·rcases h with (h|h)|h
    ·exact absurd h hi
    ·exact .inl h
    ·right;simp [hi,h]
  | kill i n=>exact ih h
end
def L9 (D:List Nat) (p:Nat->Prop):Upd->Prop
 | .put id t=>id∈D/\t.inn p
 | .kill ..=>True
section
variable {p:Nat->Prop} {L L':Lk} {D:List Nat}
theorem CZ {v:HV} (hv:v.inn p) (hD:∀x∈v.deep,x∈D) (hL:∀id,(L id).inn p):(takeC L v).1.inn p/\(∀u∈(takeC L v).2.1,L9 D p u)/\∀u∈(takeC L v).2.1,∃id t,u=.put id t:=by
 unfold takeC
 split
 ·rename_i id _ off n
  have:=hL id
  split
  ·rename_i sz m cs h
   rw [h] at this
   exact ⟨this,by simp [L9];exact hD id (by simp [HV.deep]),by simp⟩
  ·simp
 ·rename_i id off
  have:=hL id
  split
  ·rename_i cs h
   rw [h] at this
   exact ⟨this,by simp [L9];exact hD id (by simp [HV.deep]),by simp⟩
  ·simp
 ·rename_i id
  have:=hL id
  split
  ·rename_i m ks cs h
   rw [h] at this
   exact ⟨this,by simp [L9];exact hD id (by simp [HV.deep]),by simp⟩
  ·simp
 all_goals first|exact ⟨hv,by simp,by simp⟩|simp
theorem ve {v:HV} (h:∀x∈v.deep,L x=L' x):takeC L v=takeC L' v:=by
 unfold takeC
 split<;>first|rfl|skip
 ·rename_i id _ off n;rw [h id (by simp [HV.deep])]
 ·rename_i id off;rw [h id (by simp [HV.deep])]
 ·rename_i id;rw [h id (by simp [HV.deep])]
theorem vO (hL:∀id,(L id).inn p) {us:List Upd} (h:∀u∈us,L9 D p u) (id:Nat):(Lk.upd L us id).inn p:=by
 induction us generalizing L with
 | nil=>exact hL id
 | cons u us ih =>
  cases u with
  | put i t =>
   refine ih (L:=fun j=>if j=i then t else L j) (fun j=>?_) fun u hu'=>h u (by simp [hu'])
   split
   ·exact (h (.put i t) (by simp)).2
   ·exact hL j
  | kill i n=>exact ih hL fun u hu'=>h u (by simp [hu'])
theorem ww {l:List HV}:∀ {L:Lk},innL p l->(∀x∈bz l,x∈D)->(∀id,(L id).inn p)->innL p (gu L l).1/\(∀u∈(gu L l).2.1,L9 D p u)/\∀u∈(gu L l).2.1,∃id t,u=.put id t:=by
 induction l with
 | nil=>intro L h hD hL;simp [gu]
 | cons v r ih =>
  intro L h hD hL
  simp only [bf] at h
  simp only [bz,List.mem_append] at hD
  obtain ⟨a1,a2,a3⟩:=CZ (L:=L) h.1 (fun x hx=>hD x (.inl hx)) hL
  obtain ⟨b1,b2,b3⟩:=ih (L:=Lk.upd L (takeC L v).2.1) h.2 (fun x hx=>hD x (.inr hx)) (vO hL a2)
  simp only [gu,bf,List.mem_append]
  exact ⟨⟨a1,b1⟩,fun u hu=>hu.elim (a2 u) (b2 u),fun u hu=>hu.elim (a3 u) (b3 u)⟩
theorem qy {l:List HV}:∀ {L L':Lk},(∀x∈bz l,L x=L' x)->gu L l=gu L' l:=by
 induction l with
 | nil=>intros;rfl
 | cons v r ih =>
  intro L L' h
  simp only [bz,List.mem_append] at h
  have e1:=ve (L:=L) (L':=L') fun x hx=>h x (.inl hx)
  have e2:=ih (L:=Lk.upd L (takeC L v).2.1) (L':=Lk.upd L' (takeC L v).2.1) fun x hx=>uM (.inr (h x (.inr hx)))
  simp only [gu,<- e1,e2]
end
end Go.HL
end
section
namespace Go.HL
open Go.RowKit
def HOp.vals {α:Type}:HOp α->List α
 | .mv _ x=>[x]|.pick c a b=>[c,a,b]|.bin _ x y=>[x,y]|.beq _ x y=>[x,y]|.aeq _ _ x y=>[x,y]|.un _ x=>[x]|.conv _ x=>[x]
 | .newv _ x=>[x]|.newz _=>[]|.bld _ ps=>ps.map (·.2.2)|.bsl _ _ xs=>xs|.load _ _ x=>[x]|.store _ _ x y=>[x,y]|.nilck x=>[x]
 | .mkfn _ xs=>xs|.mksl _ _ _ l=>[l]|.slc _ x lo hi=>x::(lo.toList++hi.toList)|.faddr _ x=>[x]|.fld _ _ _ x=>[x]|.iaddr _ x i=>[x,i]|.ext x _=>[x]
 | .len x=>[x]|.app _ _ _ s x=>[s,x]|.mm _ x y=>[x,y]|.cpy x y=>[x,y]|.slz _ x=>[x]|.isn _ x=>[x]
 | .mnil _ x=>[x]|.mkmap _=>[]|.mlook _ _ _ x k=>[x,k]|.mset _ x k v=>[x,k,v]|.mlen x=>[x]|.mrng x=>[x]|.mnxt x=>[x]|.ment x=>[x]|.tostr x=>[x]|.call _ xs=>xs|.callv x xs=>x::xs|.bad=>[]
def HOp.lits {α:Type}:HOp α->List HV
 | .newz zs=>zs|.bld zs _=>zs|.mksl _ _ z _=>z|.mlook _ _ z _ _=>[z]|_=>[]
def HOp.wrt {α:Type}:HOp α->Bool
 | .newv ..=>true|.bsl ..=>true|.store ..=>true|.app ..=>true|.cpy ..=>true|.mset ..=>true|_=>false
def HOp.touch {α:Type}:HOp α->Bool
 | .newv ..=>true|.bsl ..=>true|.store ..=>true|.app ..=>true|.cpy ..=>true|.load ..=>true|.mset ..=>true|.mlook ..=>true|.mlen _=>true|.mnil ..=>true|.tostr _=>true|.call ..=>true|.callv ..=>true|_=>false
def HOp.killer {α:Type}:HOp α->Bool
 | .store f ..=>!f|.mset ..=>true|_=>false
theorem HOp.vals_map {α β:Type} (g:α->β) (o:HOp α):(o.map g).vals=o.vals.map g:=by
 cases o<;>simp [HOp.vals,HOp.map]
 rename_i lo hi;cases lo<;>cases hi<;>simp
theorem HOp.lits_map {α β:Type} (g:α->β) (o:HOp α):(o.map g).lits=o.lits:=by cases o<;>rfl
theorem HOp.wrt_map {α β:Type} (g:α->β) (o:HOp α):(o.map g).wrt=o.wrt:=by cases o<;>rfl
theorem HOp.touch_map {α β:Type} (g:α->β) (o:HOp α):(o.map g).touch=o.touch:=by cases o<;>rfl
theorem HOp.killer_map {α β:Type} (g:α->β) (o:HOp α):(o.map g).killer=o.killer:=by cases o<;>rfl
def XO (mk:Nat->HV):Prop:=(∃sz n,mk=fun fr=>.ref fr [] sz 0 n)\/(mk=fun fr=>.pref fr [] 0)\/mk=fun fr=>.mref fr []
section
variable {p:Nat->Prop} {L L':Lk} {D:List Nat}
def Shape (L:Lk) (p:Nat->Prop) (D:List Nat) (op:HOp HV):Prop :=
 ∃us0,(∀u∈us0,L9 D p u)/\(op.wrt=false->us0=[])/\(op.killer=false->∀u∈us0,∃id t,u=.put id t) /\
  ((∃v q,v.inn p/\∀fr,aH L fr op=(v,us0,q))\/(∃mk T q,XO mk/\T.inn p/\∀fr,aH L fr op=(mk fr,us0++[.put fr T],q)))
theorem Shape.pure {op:HOp HV} (h:∀fr,aH L fr op=aH L 0 op) (h1:(aH L 0 op).2.1=[]) (h2:(aH L 0 op).1.inn p):Shape L p D op :=
 ⟨[],by simp,fun _=>rfl,by simp,.inl ⟨_,_,h2,fun fr=>by rw [h fr,<- h1]⟩⟩
theorem Shape.dead {op:HOp HV} {q:Prop} (h:∀fr,aH L fr op=(.dead,[],q)):Shape L p D op:=⟨[],by simp,fun _=>rfl,by simp,.inl ⟨_,_,dE,h⟩⟩
theorem Shape.mk {op:HOp HV} {mk:Nat->HV} {us0:List Upd} {T:HV} {q:Prop} (h:∀fr,aH L fr op=(mk fr,us0++[.put fr T],q)) (hm:XO mk) (hT:T.inn p) (hu:∀u∈us0,L9 D p u) (hw:op.wrt=false->us0=[]) (hk:∀u∈us0,∃id t,u=.put id t):Shape L p D op :=
 ⟨us0,hu,hw,fun _=>hk,.inr ⟨mk,T,q,hm,hT,h⟩⟩
theorem FZ {op:BinOp} {x y:HV}:(D9 op x y).1.inn p:=by
 unfold D9
 split<;>(try split)<;>first|exact jr|exact lw|exact dE
theorem G8 {l:List HV} (h:innL p l):innL p (l.flatMap cellsOf):=fun v hv=>by
 obtain ⟨u,hu,hv⟩:=List.mem_flatMap.1 hv
 exact qW (h u hu) v hv
theorem mO {v:HV} {x:Nat} (h:x∈bz (cellsOf v)):x∈v.deep:=by
 unfold cellsOf at h
 split at h
 ·exact h
 ·simpa [bz] using h
theorem uC {l:List HV} {x:Nat} (h:x∈bz (l.flatMap cellsOf)):x∈bz l:=by
 rw [mem_deepL] at h ⊢
 obtain ⟨v,hv,hx⟩:=h
 obtain ⟨u,hu,hv⟩:=List.mem_flatMap.1 hv
 exact ⟨u,hu,mO (mem_deepL.2 ⟨v,hv,hx⟩)⟩
theorem F5 {fl:Bool} {sz:Nat} {v:HV} (hv:v.inn p) (hD:∀x∈v.deep,x∈D) (hL:∀id,(L id).inn p):innL p (dW L fl sz v).2.1/\(∀u∈(dW L fl sz v).2.2.1,L9 D p u)/\∀u∈(dW L fl sz v).2.2.1,∃id t,u=.put id t:=by
 unfold dW
 split
 ·simp
 ·exact ⟨by simpa using hv,by simp,by simp⟩
 ·rename_i id q sz' off m
  have:=kE (hL id) q
  split
  ·rename_i cs h
   rw [h] at this
   simp only [qG] at this
   split
   ·exact ⟨this.win _ _,by simp,by simp⟩
   ·exact ⟨this,by simp [L9];exact hD id (by simp [HV.deep]),by simp⟩
  ·simp
 ·simp
theorem xX {fl:Bool} {sz:Nat} {v:HV} (h:∀x∈v.deep,L x=L' x):dW L fl sz v=dW L' fl sz v:=by
 unfold dW
 split<;>first|rfl|skip
 ·rename_i id q sz' off m;rw [h id (by simp [HV.deep])]
theorem ni {ok b:Bool} {v:HV} (h:v.inn p):(okV ok v b).inn p:=by cases ok<;>simp [okV,h]
theorem yz {cs:List HV}:(strOf cs).1.inn p:=by unfold strOf;split<;>simp
theorem yB {cs:List HV}:(strOf cs).2.1=[]:=by unfold strOf;split<;>rfl
theorem JS {m:MK} {ks cs:List HV} {k v:HV} (h:innL p cs) (hv:v.inn p):(qY m ks cs k v).inn p:=by
 unfold qY
 split
 ·simp only [nJ];exact h.set _ hv
 ·simp only [nJ,vC,bf,Ap,and_true];exact ⟨h,hv⟩
theorem wu {op:HOp HV} (hv:innL p op.vals) (hD:∀x∈bz op.vals,x∈D) (hl:innL p op.lits) (hL:∀id,(L id).inn p):Shape L p D op:=by
 cases op
 case mv nz v =>
  simp only [HOp.vals,bf] at hv
  cases nz with
  | zero=>exact .pure (fun _=>rfl) rfl hv.1
  | succ k=>cases v<;>first|exact .mk (mk:=fun fr=>.ref fr [] (k+1) 0 0) (us0:=[]) (T:=.osl (k+1) 0 []) (q:=True) (fun _=>rfl) (.inl ⟨_,_,rfl⟩) (by simp) (by simp) (fun _=>rfl) (by simp)|exact .pure (fun _=>rfl) rfl hv.1
 case pick c a b =>
  simp only [HOp.vals,bf] at hv
  cases c<;>first|exact .dead fun _=>rfl|skip
  rename_i t
  refine .pure (fun _=>rfl) ?_ ?_<;>simp only [aH]<;>split<;>first|rfl|exact lw|(split<;>first|exact hv.2.1|exact hv.2.2.1)
 case bin op x y=>exact .pure (fun _=>rfl) rfl FZ
 case beq ne x y=>refine .pure (fun _=>rfl) ?_ ?_<;>simp only [aH]<;>split<;>first|rfl|exact lw|exact dE
 case aeq ne n x y=>refine .pure (fun _=>rfl) ?_ ?_<;>simp only [aH]<;>split<;>first|rfl|exact lw|exact dE
 case un op x=>refine .pure (fun _=>rfl) ?_ ?_<;>simp only [aH]<;>split<;>first|rfl|exact lw|exact dE|exact jr
 case conv k x=>refine .pure (fun _=>rfl) ?_ ?_<;>simp only [aH]<;>split<;>first|rfl|exact dE|exact jr
 case newv sz x =>
  simp only [HOp.vals,bf,bz,List.append_nil] at hv hD
  obtain ⟨a1,a2,a3⟩:=ww (D:=D) (qW hv.1) (fun x hx=>hD x (mO hx)) hL
  exact .mk (mk:=fun fr=>.pref fr [] 0) (fun _=>rfl) (.inr (.inl rfl)) (by simpa using a1) a2 (fun h=>by cases h) a3
 case newz zs=>exact .mk (mk:=fun fr=>.pref fr [] 0) (us0:=[]) (T:=.optr zs) (q:=True) (fun _=>rfl) (.inr (.inl rfl)) (by simpa [HOp.lits] using hl) (by simp) (fun _=>rfl) (by simp)
 case bld zs ps =>
  refine .pure (fun _=>rfl) rfl ?_
  simp only [aH,ou]
  exact Bd hl fun q hq=>hv q.2.2 (List.mem_map_of_mem hq)
 case bsl sz n xs =>
  obtain ⟨a1,a2,a3⟩:=ww (D:=D) (G8 (p:=p) (l:=xs) hv) (fun x hx=>hD x (uC hx)) hL
  exact .mk (mk:=fun fr=>.ref fr [] sz 0 n) (fun _=>rfl) (.inl ⟨_,_,rfl⟩) (by simpa using a1) a2 (fun h=>by cases h) a3
 case load a sz x =>
  simp only [HOp.vals,bf] at hv
  cases x<;>first|exact .dead fun _=>rfl|skip
  ·have h1:=hv.1
   simp only [vK] at h1
   cases a
   ·exact .pure (fun _=>rfl) rfl (h1.getD _)
   ·exact .pure (fun _=>rfl) rfl (by simp only [aH];simpa using h1.win _ _)
  ·rename_i id q off
   have h1:=hv.1
   simp only [sH] at h1
   have h2:=wC (kE (hL id) q)
   cases a
   ·exact .pure (fun _=>rfl) rfl (Az h1 (h2.getD _))
   ·exact .pure (fun _=>rfl) rfl (by simp only [aH];simpa using h2.win _ _)
 case store fl sz x y =>
  simp only [HOp.vals,bf,bz,List.append_nil,List.mem_append] at hv hD
  cases x<;>first|exact .dead fun _=>rfl|skip
  rename_i id q off
  obtain ⟨a1,a2,a3⟩:=ww (D:=D) (qW hv.2.1) (fun x hx=>hD x (.inr (mO hx))) hL
  have ht:=vO hL a2 id
  refine ⟨(aH L 0 (.store fl sz (.pref id q off) y)).2.1,?_,(fun h=>by cases h),?_,.inl ⟨_,_,?_,fun _=>rfl⟩⟩
  ·intro u hu
   simp only [aH,List.mem_append,List.mem_singleton] at hu
   rcases hu with (hu|hu)|rfl
   ·exact a2 u hu
   ·cases fl<;>simp at hu
    subst hu;trivial
   ·exact ⟨hD id (.inl (by simp [HV.deep])),uf (CV (kE ht q) (qA (wC (kE ht q)) a1 off)) ht q⟩
  ·intro hk u hu
   simp only [HOp.killer,Bool.not_eq_false'] at hk
   subst hk
   simp only [aH,List.mem_append,List.mem_singleton,if_true,List.not_mem_nil,or_false] at hu
   rcases hu with hu|rfl
   ·exact a3 u hu
   ·exact ⟨_,_,rfl⟩
  ·exact dE
 case nilck x =>
  simp only [HOp.vals,bf] at hv
  cases x<;>first|exact .dead fun _=>rfl|exact .pure (fun _=>rfl) rfl hv.1
 case mkfn f xs=>exact .pure (fun _=>rfl) rfl (by simp only [aH,wL];exact hv)
 case mksl sz bytes z l =>
  cases l<;>first|exact .dead fun _=>rfl|skip
  rename_i k n
  cases k<;>first|exact .dead fun _=>rfl|skip
  refine .mk (mk:=fun fr=>.ref fr [] sz 0 n.toNat) (us0:=[]) (fun _=>rfl) (.inl ⟨_,_,rfl⟩) ?_ (by simp) (fun _=>rfl) (by simp)
  simp only [qG]
  intro v hv'
  obtain ⟨l,hl',hv'⟩:=List.mem_flatten.1 hv'
  rw [List.mem_replicate] at hl'
  rw [hl'.2] at hv'
  exact hl v hv'
 case slc sz x lo hi =>
  simp only [HOp.vals,bf] at hv
  refine .pure (fun _=>rfl) ?_ ?_
  ·simp only [aH]
   repeat' split
   all_goals rfl
  ·simp only [aH]
   split
   ·split
    ·split
     ·simp only [KO];exact innL.win (by simpa using hv.1) _ _
     ·exact dE
    ·split
     ·simpa using hv.1
     ·exact dE
    ·exact dE
   ·exact dE
 case faddr d x =>
  simp only [HOp.vals,bf] at hv
  cases x<;>first|exact .dead fun _=>rfl|exact .pure (fun _=>rfl) rfl (by simpa [aH] using hv.1)
 case fld a sz off x =>
  simp only [HOp.vals,bf] at hv
  cases x<;>first|exact .dead fun _=>rfl|skip
  have h1:=hv.1
  simp only [ou] at h1
  cases a
  ·exact .pure (fun _=>rfl) rfl (h1.getD _)
  ·exact .pure (fun _=>rfl) rfl (by simp only [aH];simpa using h1.win _ _)
 case iaddr sz x i =>
  simp only [HOp.vals,bf] at hv
  cases i<;>first|exact .dead fun _=>rfl|skip
  cases x<;>first|exact .dead fun _=>rfl|exact .pure (fun _=>rfl) rfl (by simpa [aH] using hv.1)
 case ext x i =>
  simp only [HOp.vals,bf] at hv
  cases x<;>first|exact .dead fun _=>rfl|skip
  have h1:=hv.1
  simp only [tX] at h1
  exact .pure (fun _=>rfl) rfl (h1.getD _)
 case len x=>cases x<;>first|exact .dead fun _=>rfl|exact .pure (fun _=>rfl) rfl jr
 case app fl sz bytes x y =>
  simp only [HOp.vals,bf,bz,List.append_nil,List.mem_append] at hv hD
  obtain ⟨a1,a2,a3⟩:=F5 (D:=D) (fl:=fl) (sz:=sz) hv.2.1 (fun x hx=>hD x (.inr hx)) hL
  cases x<;>first|exact .dead fun _=>rfl|skip
  ·exact .mk (mk:=fun fr=>.ref fr [] sz 0 (dW L fl sz y).1) (fun _=>rfl) (.inl ⟨_,_,rfl⟩) (by simpa using a1) a2 (fun h=>by cases h) a3
  ·rename_i id q sz' off n
   have ht:=vO hL a2 id
   have hn:=kE ht q
   simp only [Shape]
   generalize htt:Lk.upd L (dW L fl sz y).2.2.1 id=t at ht hn
   generalize hnn:aQ t q=nd at hn
   have dd:(∀fr,aH L fr (.app fl sz bytes (.ref id q sz' off n) y)=(.dead,[],False))->Shape L p D (.app fl sz bytes (.ref id q sz' off n) y):=fun h=>.dead h
   cases nd with
   | osl s m cs =>
    simp only [qG] at hn
    refine Shape.mk (mk:=fun fr=>.ref fr [] sz 0 (n+(dW L fl sz y).1)) (us0:=(dW L fl sz y).2.2.1++[.put id (dJ .dead t q)]) (T:=.osl sz (n+(dW L fl sz y).1) (win cs off (n*sz)++(dW L fl sz y).2.1))
     (q:=(dW L fl sz y).2.2.2/\(n+(dW L fl sz y).1)*bytes<=140737488355328/\n+(dW L fl sz y).1<=maxLen/\sz'=sz/\off+n*sz<=cs.length) (fun fr=>?_) (.inl ⟨_,_,rfl⟩) ?_ ?_ (fun h=>by cases h) ?_
    ·simp only [aH,htt,hnn,List.append_assoc,List.cons_append,List.nil_append]
    ·simp only [qG,vC];exact ⟨hn.win _ _,a1⟩
    ·intro u hu
     simp only [List.mem_append,List.mem_singleton] at hu
     rcases hu with hu|rfl
     ·exact a2 u hu
     ·exact ⟨hD id (.inl (by simp [HV.deep])),uf dE ht q⟩
    ·intro u hu
     simp only [List.mem_append,List.mem_singleton] at hu
     rcases hu with hu|rfl
     ·exact a3 u hu
     ·exact ⟨_,_,rfl⟩
   | _=>exact dd fun fr=>by simp only [aH,htt,hnn]
 case mm mx x y=>refine .pure (fun _=>rfl) ?_ ?_<;>simp only [aH]<;>split<;>first|rfl|exact jr|exact dE
 case cpy x y =>
  simp only [HOp.vals,bf,bz,List.append_nil,List.mem_append] at hv hD
  obtain ⟨a1,_,_⟩:=F5 (D:=D) (fl:=true) (sz:=1) hv.2.1 (fun x hx=>hD x (.inr hx)) hL
  cases x<;>first|exact .dead fun _=>rfl|skip
  rename_i id q sz' off n
  refine ⟨(aH L 0 (.cpy (.ref id q sz' off n) y)).2.1,?_,(fun h=>by cases h),?_,.inl ⟨_,_,?_,fun _=>rfl⟩⟩
  ·intro u hu
   simp only [aH,List.mem_singleton] at hu
   subst hu
   exact ⟨hD id (.inl (by simp [HV.deep])),uf (CV (kE (hL id) q) (qA (wC (kE (hL id) q)) (fun v hv=>a1 v (List.mem_of_mem_take hv)) off)) (hL id) q⟩
  ·intro _ u hu
   simp only [aH,List.mem_singleton] at hu
   subst hu
   exact ⟨_,_,rfl⟩
  ·exact jr
 case slz sz x =>
  cases x<;>first|exact .dead fun _=>rfl|exact .mk (mk:=fun fr=>.ref fr [] sz 0 0) (us0:=[]) (T:=.osl sz 0 []) (q:=True) (fun _=>rfl) (.inl ⟨_,_,rfl⟩) (by simp) (by simp) (fun _=>rfl) (by simp)
 case isn ne x=>refine .pure (fun _=>?_) ?_ ?_<;>simp only [aH]<;>cases x<;>first|rfl|exact lw|exact dE
 case mnil ne x =>
  cases x<;>first|exact .dead fun _=>rfl|exact .pure (fun _=>rfl) rfl lw|skip
  rename_i id q
  generalize hnn:aQ (L id) q=nd
  cases nd with
  | omap m ks cs=>exact .pure (fun _=>by simp only [aH]) (by simp only [aH,hnn]) (by simp only [aH,hnn];exact lw)
  | _=>exact .dead (q:=False) fun fr=>by simp only [aH,hnn]
 case mkmap kk=>exact .mk (mk:=fun fr=>.mref fr []) (us0:=[]) (T:=.omap ⟨kk,none⟩ [] []) (q:=True) (fun _=>rfl) (.inr (.inr rfl)) (by simp) (by simp) (fun _=>rfl) (by simp)
 case mlook ok kk z x k =>
  simp only [HOp.vals,bf] at hv
  simp only [HOp.lits,bf] at hl
  refine .pure (fun _=>rfl) ?_ ?_
  ·simp only [aH]
   repeat' split
   all_goals rfl
  ·simp only [aH]
   split
   ·exact ni hl.1
   ·rename_i m ks cs
    have h1:=hv.1
    simp only [wP] at h1
    split
    ·exact ni (h1.getD _)
    ·exact ni hl.1
   ·rename_i id q
    have h1:=hv.1
    simp only [sK] at h1
    have h2:=kE (hL id) q
    split
    ·rename_i m ks cs hnn
     rw [hnn] at h2
     simp only [nJ] at h2
     split
     ·exact ni (Az h1 (h2.getD _))
     ·exact ni hl.1
    ·exact dE
   ·exact dE
 case mset kk x k v =>
  simp only [HOp.vals,bf,bz,List.append_nil,List.mem_append] at hv hD
  cases x<;>first|exact .dead fun _=>rfl|skip
  rename_i id q
  obtain ⟨a1,a2,a3⟩:=CZ (D:=D) hv.2.2.1 (fun x hx=>hD x (.inr (.inr hx))) hL
  have ht:=vO hL a2 id
  generalize hnn:aQ (Lk.upd L (takeC L v).2.1 id) q=nd
  cases nd with
  | omap m ks cs =>
   have hcs:=kE ht q
   rw [hnn] at hcs
   simp only [nJ] at hcs
   refine ⟨(takeC L v).2.1++[.kill id q.length]++[.put id (dJ (qY m ks cs k (takeC L v).1) (Lk.upd L (takeC L v).2.1 id) q)],?_,(fun h=>by cases h),(fun h=>by cases h),.inl ⟨.dead,(takeC L v).2.2/\m.kind=kk/\dR kk k=true,dE,fun fr=>by simp only [aH,hnn]⟩⟩
   intro u hu
   simp only [List.mem_append,List.mem_singleton] at hu
   rcases hu with (hu|rfl)|rfl
   ·exact a2 u hu
   ·trivial
   ·exact ⟨hD id (.inl (by simp [HV.deep])),uf (JS hcs a1) ht q⟩
  | _=>exact .dead (q:=False) fun fr=>by simp only [aH,hnn]
 case mlen x =>
  cases x<;>first|exact .dead fun _=>rfl|exact .pure (fun _=>rfl) rfl jr|skip
  rename_i id q
  generalize hnn:aQ (L id) q=nd
  cases nd with
  | omap m ks cs=>exact .pure (fun _=>by simp only [aH]) (by simp only [aH,hnn]) (by simp only [aH,hnn];exact jr)
  | _=>exact .dead (q:=False) fun fr=>by simp only [aH,hnn]
 case mrng=>exact .dead fun _=>rfl
 case mnxt=>exact .dead fun _=>rfl
 case ment=>exact .dead fun _=>rfl
 case tostr x =>
  cases x<;>first|exact .dead fun _=>rfl|exact .pure (fun _=>rfl) rfl OJ|exact .pure (fun _=>rfl) yB yz|skip
  rename_i id q sz off n
  generalize hnn:aQ (L id) q=nd
  cases nd with
  | osl s m cs=>exact .pure (fun _=>by simp only [aH]) (by simp only [aH,hnn];exact yB) (by simp only [aH,hnn];exact yz)
  | _=>exact .dead (q:=False) fun fr=>by simp only [aH,hnn]
 case call=>exact .dead fun _=>rfl
 case callv=>exact .dead fun _=>rfl
 case bad=>exact .dead fun _=>rfl
theorem xW {op:HOp HV} (h:∀x∈bz op.vals,L x=L' x) (fr:Nat):aH L fr op=aH L' fr op:=by
 cases op<;>first|rfl|skip
 case newv sz x =>
  simp only [HOp.vals,bz,List.append_nil] at h
  simp only [aH,qy (L:=L) (L':=L') (l:=cellsOf x) fun x hx=>h x (mO hx)]
 case bsl sz n xs=>simp only [aH,qy (L:=L) (L':=L') (l:=xs.flatMap cellsOf) fun x hx=>h x (uC hx)]
 case load a sz x =>
  cases x<;>first|rfl|skip
  rename_i id q off
  have:=h id (by simp [HOp.vals,bz,HV.deep])
  simp only [aH,this]
 case store fl sz x y =>
  cases x<;>first|rfl|skip
  rename_i id q off
  simp only [HOp.vals,bz,List.append_nil,List.mem_append] at h
  have e1:=qy (L:=L) (L':=L') (l:=cellsOf y) fun x hx=>h x (.inr (mO hx))
  have e2:Lk.upd L (gu L' (cellsOf y)).2.1 id=Lk.upd L' (gu L' (cellsOf y)).2.1 id:=uM (.inr (h id (.inl (by simp [HV.deep]))))
  simp only [aH,e1,e2]
 case app fl sz bytes x y =>
  simp only [HOp.vals,bz,List.append_nil,List.mem_append] at h
  have e1:=xX (L:=L) (L':=L') (fl:=fl) (sz:=sz) (v:=y) fun x hx=>h x (.inr hx)
  cases x<;>(try (simp only [aH,e1];done))<;>try rfl
  rename_i id q sz' off n
  have e2:Lk.upd L (dW L' fl sz y).2.2.1 id=Lk.upd L' (dW L' fl sz y).2.2.1 id:=uM (.inr (h id (.inl (by simp [HV.deep]))))
  simp only [aH,e1,e2]
 case cpy x y =>
  simp only [HOp.vals,bz,List.append_nil,List.mem_append] at h
  have e1:=xX (L:=L) (L':=L') (fl:=true) (sz:=1) (v:=y) fun x hx=>h x (.inr hx)
  cases x<;>(try (simp only [aH,e1];done))<;>try rfl
  rename_i id q sz' off n
  have e2:=h id (.inl (by simp [HV.deep]))
  simp only [aH,e1,e2]
 case mnil ne x =>
  cases x<;>first|rfl|skip
  rename_i id q
  have:=h id (by simp [HOp.vals,bz,HV.deep])
  simp only [aH,this]
 case mlook ok kk z x k =>
  cases x<;>first|rfl|skip
  rename_i id q
  have:=h id (by simp [HOp.vals,bz,HV.deep])
  simp only [aH,this]
 case mset kk x k v =>
  cases x<;>first|rfl|skip
  rename_i id q
  simp only [HOp.vals,bz,List.append_nil,List.mem_append] at h
  have e1:=ve (L:=L) (L':=L') (v:=v) fun x hx=>h x (.inr (.inr hx))
  have e2:Lk.upd L (takeC L' v).2.1 id=Lk.upd L' (takeC L' v).2.1 id:=uM (.inr (h id (.inl (by simp [HV.deep]))))
  simp only [aH,e1,e2]
 case mlen x =>
  cases x<;>first|rfl|skip
  rename_i id q
  have:=h id (by simp [HOp.vals,bz,HV.deep])
  simp only [aH,this]
 case tostr x =>
  cases x<;>first|rfl|skip
  rename_i id q sz off n
  have:=h id (by simp [HOp.vals,bz,HV.deep])
  simp only [aH,this]
theorem FP {op:HOp HV} (h:op.touch=false) (fr:Nat):aH L fr op=aH L' fr op:=by
 cases op<;>first|rfl|cases h
end
end Go.HL
end
section
namespace Go.HL
open Go.RowKit
mutual
def HV.rn (g:Nat->Nat):HV->HV
 | .ref i p sz o n=>.ref (g i) p sz o n
 | .pref i p o=>.pref (g i) p o
 | .mref i p=>.mref (g i) p
 | .agg cs=>.agg (NC g cs)
 | .tup cs=>.tup (NC g cs)
 | .fn f cs=>.fn f (NC g cs)
 | v=>v
def NC (g:Nat->Nat):List HV->List HV
 | []=>[]
 | v::r=>v.rn g::NC g r
end
def Af (g:Nat->Nat):Upd->Upd
 | .put id t=>.put (g id) t
 | .kill id n=>.kill (g id) n
mutual
theorem HV.rn_id (g:Nat->Nat):∀v:HV,v.inn (fun i=>g i=i)->v.rn g=v
 | .ref i p sz o n,h=>by simp only [zD] at h;simp only [HV.rn,h]
 | .pref i p o,h=>by simp only [sH] at h;simp only [HV.rn,h]
 | .mref i p,h=>by simp only [sK] at h;simp only [HV.rn,h]
 | .agg cs,h=>by simp only [ou] at h;simp only [HV.rn,zO g cs h]
 | .tup cs,h=>by simp only [tX] at h;simp only [HV.rn,zO g cs h]
 | .fn f cs,h=>by simp only [wL] at h;simp only [HV.rn,zO g cs h]
 | .int ..,_=>rfl
 | .bool _,_=>rfl
 | .str _,_=>rfl
 | .nils,_=>rfl
 | .nilp,_=>rfl
 | .nilf,_=>rfl
 | .sl ..,_=>rfl
 | .osl ..,_=>rfl
 | .ptr ..,_=>rfl
 | .optr _,_=>rfl
 | .nilm,_=>rfl
 | .rmap ..,_=>rfl
 | .omap ..,_=>rfl
 | .oitr ..,_=>rfl
 | .dead,_=>rfl
theorem zO (g:Nat->Nat):∀l:List HV,innL (fun i=>g i=i) l->NC g l=l
 | [],_=>rfl
 | v::r,h=>by simp only [bf] at h;simp only [NC,HV.rn_id g v h.1,zO g r h.2]
end
def WG (fr fr':Nat) (g:Nat->Nat) (x y:HV×List Upd×Nat):Prop :=
 fr<=x.2.2/\y.2.2+fr=x.2.2+fr'/\((∀k,fr<=k->k<x.2.2->g k=k - fr+fr')->y.1=x.1.rn g/\y.2.1=x.2.1.map (Af g)) /\
  x.1.inn (fun i=>fr<=i/\i<x.2.2)/\∀u∈x.2.1,∃id t,u=.put id t/\fr<=id/\id<x.2.2/\t.deep=[]
def TZ (fr fr':Nat) (g:Nat->Nat) (x y:List HV×List Upd×Nat):Prop :=
 fr<=x.2.2/\y.2.2+fr=x.2.2+fr'/\((∀k,fr<=k->k<x.2.2->g k=k - fr+fr')->y.1=NC g x.1/\y.2.1=x.2.1.map (Af g)) /\
  innL (fun i=>fr<=i/\i<x.2.2) x.1/\∀u∈x.2.1,∃id t,u=.put id t/\fr<=id/\id<x.2.2/\t.deep=[]
theorem HV.inn_mono {p q:Nat->Prop} {v:HV} (h:v.inn p) (hpq:∀x,p x->q x):v.inn q:=fun x hx=>hpq x (h x hx)
theorem innL.mono {p q:Nat->Prop} {v:List HV} (h:innL p v) (hpq:∀x,p x->q x):innL q v:=fun x hx=>HV.inn_mono (h x hx) hpq
mutual
theorem uq (g:Nat->Nat):∀ (v:HV) (fr fr':Nat),v.deep=[]->WG fr fr' g (unpack fr v) (unpack fr' v)
 | .osl sz n cs,fr,fr',hd=>by
  refine ⟨by simp [unpack],by simp [unpack];omega,fun h=>?_,by simp [unpack],by intro u hu;simp only [unpack,List.mem_singleton] at hu;exact ⟨_,_,hu,Nat.le_refl _,Nat.lt_succ_self _,hd⟩⟩
  have:=h fr (Nat.le_refl _) (by simp [unpack])
  simp [unpack,HV.rn,Af,this]
 | .optr cs,fr,fr',hd=>by
  refine ⟨by simp [unpack],by simp [unpack];omega,fun h=>?_,by simp [unpack],by intro u hu;simp only [unpack,List.mem_singleton] at hu;exact ⟨_,_,hu,Nat.le_refl _,Nat.lt_succ_self _,hd⟩⟩
  have:=h fr (Nat.le_refl _) (by simp [unpack])
  simp [unpack,HV.rn,Af,this]
 | .omap m ks cs,fr,fr',hd=>by
  refine ⟨by simp [unpack],by simp [unpack];omega,fun h=>?_,by simp [unpack],by intro u hu;simp only [unpack,List.mem_singleton] at hu;exact ⟨_,_,hu,Nat.le_refl _,Nat.lt_succ_self _,hd⟩⟩
  have:=h fr (Nat.le_refl _) (by simp [unpack])
  simp [unpack,HV.rn,Af,this]
 | .oitr b s l c,fr,fr',hd=>by
  refine ⟨by simp [unpack],by simp [unpack];omega,fun h=>?_,by simp [unpack],by intro u hu;simp only [unpack,List.mem_singleton] at hu;exact ⟨_,_,hu,Nat.le_refl _,Nat.lt_succ_self _,hd⟩⟩
  have:=h fr (Nat.le_refl _) (by simp [unpack])
  simp [unpack,HV.rn,Af,this]
 | .agg cs,fr,fr',hd=>by
  obtain ⟨h1,h2,h3,h4,h5⟩:=oL g cs fr fr' hd
  exact ⟨h1,h2,fun h=>by have:=h3 h;simp only [unpack,HV.rn];exact ⟨by rw [this.1],this.2⟩,by simpa [unpack] using h4,h5⟩
 | .tup cs,fr,fr',hd=>by
  obtain ⟨h1,h2,h3,h4,h5⟩:=oL g cs fr fr' hd
  exact ⟨h1,h2,fun h=>by have:=h3 h;simp only [unpack,HV.rn];exact ⟨by rw [this.1],this.2⟩,by simpa [unpack] using h4,h5⟩
 | .fn f cs,fr,fr',hd=>by
  obtain ⟨h1,h2,h3,h4,h5⟩:=oL g cs fr fr' hd
  exact ⟨h1,h2,fun h=>by have:=h3 h;simp only [unpack,HV.rn];exact ⟨by rw [this.1],this.2⟩,by simpa [unpack] using h4,h5⟩
 | .ref i p sz o n,fr,fr',hd=>by cases hd
 | .pref i p o,fr,fr',hd=>by cases hd
 | .mref i p,fr,fr',hd=>by cases hd
 | .nilm,fr,fr',hd=>⟨Nat.le_refl _,Nat.add_comm _ _,fun _=>⟨rfl,rfl⟩,by simp [unpack],by simp [unpack]⟩
 | .int ..,fr,fr',hd=>⟨Nat.le_refl _,Nat.add_comm _ _,fun _=>⟨rfl,rfl⟩,by simp [unpack],by simp [unpack]⟩
 | .bool _,fr,fr',hd=>⟨Nat.le_refl _,Nat.add_comm _ _,fun _=>⟨rfl,rfl⟩,by simp [unpack],by simp [unpack]⟩
 | .str _,fr,fr',hd=>⟨Nat.le_refl _,Nat.add_comm _ _,fun _=>⟨rfl,rfl⟩,by simp [unpack],by simp [unpack]⟩
 | .nils,fr,fr',hd=>⟨Nat.le_refl _,Nat.add_comm _ _,fun _=>⟨rfl,rfl⟩,by simp [unpack],by simp [unpack]⟩
 | .nilp,fr,fr',hd=>⟨Nat.le_refl _,Nat.add_comm _ _,fun _=>⟨rfl,rfl⟩,by simp [unpack],by simp [unpack]⟩
 | .nilf,fr,fr',hd=>⟨Nat.le_refl _,Nat.add_comm _ _,fun _=>⟨rfl,rfl⟩,by simp [unpack],by simp [unpack]⟩
 | .dead,fr,fr',hd=>⟨Nat.le_refl _,Nat.add_comm _ _,fun _=>⟨rfl,rfl⟩,by simp [unpack],by simp [unpack]⟩
 | .sl n cs,fr,fr',hd=>⟨Nat.le_refl _,Nat.add_comm _ _,fun _=>⟨rfl,rfl⟩,(by intro x hx;simp only [unpack] at hx;rw [hd] at hx;cases hx),(by simp [unpack])⟩
 | .ptr cs o,fr,fr',hd=>⟨Nat.le_refl _,Nat.add_comm _ _,fun _=>⟨rfl,rfl⟩,(by intro x hx;simp only [unpack] at hx;rw [hd] at hx;cases hx),(by simp [unpack])⟩
 | .rmap m ks cs,fr,fr',hd=>⟨Nat.le_refl _,Nat.add_comm _ _,fun _=>⟨rfl,rfl⟩,(by intro x hx;simp only [unpack] at hx;rw [hd] at hx;cases hx),(by simp [unpack])⟩
theorem oL (g:Nat->Nat):∀ (l:List HV) (fr fr':Nat),bz l=[]->TZ fr fr' g (bC fr l) (bC fr' l)
 | [],fr,fr',hd=>⟨Nat.le_refl _,Nat.add_comm _ _,fun _=>⟨rfl,rfl⟩,by simp [bC],by simp [bC]⟩
 | v::r,fr,fr',hd=>by
  simp only [bz,List.append_eq_nil_iff] at hd
  obtain ⟨a1,a2,a3,a4,a5⟩:=uq g v fr fr' hd.1
  obtain ⟨b1,b2,b3,b4,b5⟩:=oL g r (unpack fr v).2.2 (unpack fr' v).2.2 hd.2
  refine ⟨by simp only [bC];omega,by simp only [bC];omega,fun h=>?_,?_,?_⟩
  ·simp only [bC] at h ⊢
   obtain ⟨c1,c2⟩:=a3 fun k h1 h2=>h k h1 (by omega)
   obtain ⟨c3,c4⟩:=b3 fun k h1 h2=>by rw [h k (by omega) h2];omega
   simp only [NC,c1,c2,c3,c4,List.map_append,and_self]
  ·simp only [bC,bf]
   exact ⟨HV.inn_mono a4 fun x hx=>by omega,b4.mono fun x hx=>by omega⟩
  ·intro u hu
   simp only [bC,List.mem_append] at hu ⊢
   rcases hu with hu|hu
   ·obtain ⟨id,t,e,h1,h2,h3⟩:=a5 u hu
    exact ⟨id,t,e,h1,by omega,h3⟩
   ·obtain ⟨id,t,e,h1,h2,h3⟩:=b5 u hu
    exact ⟨id,t,e,by omega,h2,h3⟩
end
end Go.HL
end
section
namespace Go.HL
open Go.RowKit
def mM (C:lH) (D:FuncId->List HV->HV->Prop) (M:Lk) (fr:Nat):HOp HV->Prop
 | .call f xs=>C f (fK fB M xs) (D f (fK fB M xs))/\∀r,D f (fK fB M xs) r->r.deep=[]->(bD xs || r.noRd)=true/\(unpack fr r).2.2<=fr+stride
 | .callv (.fn f cap) xs=>C f (fK fB M (xs++cap)) (D f (fK fB M (xs++cap)))/\∀r,D f (fK fB M (xs++cap)) r->r.deep=[]->(bD (xs++cap) || r.noRd)=true/\(unpack fr r).2.2<=fr+stride
 | op=>(aH M fr op).2.2
def oI (D:FuncId->List HV->HV->Prop) (M:Lk) (fr:Nat) (e:HV×List Upd):HOp HV->Prop
 | .call f xs=>∃r,D f (fK fB M xs) r/\r.deep=[]/\e=((unpack fr r).1,(unpack fr r).2.1)
 | .callv (.fn f cap) xs=>∃r,D f (fK fB M (xs++cap)) r/\r.deep=[]/\e=((unpack fr r).1,(unpack fr r).2.1)
 | op=>e=((aH M fr op).1,(aH M fr op).2.1)
def gd (all:List aS) (o:aS) (S:Lk):Option Bool :=
 match o.guard with
 | none=>some true
 | some (j,want)=>match ((all[j]?).bind (·.dst)).map S with
  | some (.bool b)=>some (b==want)
  | some (.tup [])=>some false
  | _=>none
def gp (C:lH) (D:FuncId->List HV->HV->Prop) (all:List aS) (fr:Nat) (o:aS) (S M:Lk):Prop :=
 match gd all o S with
 | some true=>mM C D M fr (o.op.map (dZ S))
 | some false=>True
 | none=>False
def iI (D:FuncId->List HV->HV->Prop) (all:List aS) (fr:Nat) (o:aS) (S M:Lk) (e:HV×List Upd):Prop :=
 match gd all o S with
 | some true=>oI D M fr e (o.op.map (dZ S))
 | some false=>e=(.tup [],[])
 | none=>False
def kG (o:aS) (e:HV×List Upd) (S:Lk):Lk:=fun t=>if o.dst=some t then e.1 else qE S e.2 t
def qL (e:HV×List Upd) (M:Lk):Lk:=Lk.upd M e.2
def jb (o:aS) (S:Lk):List Nat:=bz (o.op.map (dZ S)).vals
def slotsOf:List HX->List Nat
 | []=>[]
 | .t i::r=>i::slotsOf r
 | .c _::r=>slotsOf r
def looks (all:List aS) (o:aS):List Nat :=
 slotsOf o.op.vals++(match o.guard with|none=>[]|some (j,_)=>((all[j]?).bind (·.dst)).toList)
theorem H7 {α β:Type} {g g':α->β} {o:HOp α} (h:∀x∈o.vals,g x=g' x):o.map g=o.map g':=by
 cases o<;>simp_all [HOp.vals,HOp.map]
 case bld zs ps =>
  intro a b c hx
  exact h c a b hx
 case slc sz x lo hi =>
  refine ⟨?_,?_⟩
  ·cases lo<;>simp_all
  ·cases hi<;>simp_all
theorem Iy {S S':Lk} {l:List HX} (h:∀t∈slotsOf l,S t=S' t):∀x∈l,dZ S x=dZ S' x:=by
 induction l with
 | nil=>simp
 | cons y r ih =>
  intro x hx
  cases y with
  | t i =>
   simp only [slotsOf,List.mem_cons] at h
   rcases List.mem_cons.1 hx with rfl|hx
   ·exact h i (.inl rfl)
   ·exact ih (fun t ht=>h t (.inr ht)) x hx
  | c v =>
   rcases List.mem_cons.1 hx with rfl|hx
   ·rfl
   ·exact ih h x hx
theorem jE {all:List aS} {o:aS} {S S':Lk} (h:∀t∈looks all o,S t=S' t):o.op.map (dZ S)=o.op.map (dZ S') :=
 H7 (Iy fun t ht=>h t (by simp [looks,ht]))
theorem sN {all:List aS} {o:aS} {S S':Lk} (h:∀t∈looks all o,S t=S' t):gd all o S=gd all o S':=by
 unfold gd
 cases hg:o.guard with
 | none=>rfl
 | some jw =>
  obtain ⟨j,want⟩:=jw
  simp only
  cases hd:(all[j]?).bind (·.dst) with
  | none=>rfl
  | some d =>
   simp only [Option.map_some]
   rw [h d (by simp [looks,hg,hd])]
mutual
theorem EJ {T:Nat->Bool} {L L':Lk}:∀v:HV,(∀x∈v.deep,L x=L' x)->v.thaw T L=v.thaw T L'
 | .ref i p sz o n,h=>by have:=h i (by simp [HV.deep]);simp only [HV.thaw,this]
 | .pref i p o,h=>by have:=h i (by simp [HV.deep]);simp only [HV.thaw,this]
 | .mref i p,h=>by have:=h i (by simp [HV.deep]);simp only [HV.thaw,this]
 | .agg cs,h=>by simp only [HV.thaw,iZ cs h]
 | .tup cs,h=>by simp only [HV.thaw,iZ cs h]
 | .fn f cs,h=>by simp only [HV.thaw,iZ cs h]
 | .int ..,_=>rfl
 | .bool _,_=>rfl
 | .str _,_=>rfl
 | .nils,_=>rfl
 | .nilp,_=>rfl
 | .nilf,_=>rfl
 | .sl ..,_=>rfl
 | .osl ..,_=>rfl
 | .ptr ..,_=>rfl
 | .optr _,_=>rfl
 | .nilm,_=>rfl
 | .rmap ..,_=>rfl
 | .omap ..,_=>rfl
 | .oitr ..,_=>rfl
 | .dead,_=>rfl
theorem iZ {T:Nat->Bool} {L L':Lk}:∀l:List HV,(∀x∈bz l,L x=L' x)->fK T L l=fK T L' l
 | [],_=>rfl
 | v::r,h=>by
  simp only [bz,List.mem_append] at h
  simp only [fK,EJ v fun x hx=>h x (.inl hx),iZ r fun x hx=>h x (.inr hx)]
end
theorem oH (a b:List HV):bz (a++b)=bz a++bz b:=by
 induction a with
 | nil=>rfl
 | cons v a ih=>simp [bz,ih]
section
variable {C:lH} {D:FuncId->List HV->HV->Prop} {all:List aS} {M M' S S':Lk} {fr nx i:Nat}
theorem BU {op:HOp HV} (h:op.touch=false\/∀x∈bz op.vals,M x=M' x):mM C D M fr op=mM C D M' fr op:=by
 rcases h with h|h
 ·cases op<;>first|cases h;done|exact congrArg (·.2.2) (FP (L:=M) (L':=M') h fr)
 ·cases op
  case call f xs=>simp only [mM,iZ (L:=M) (L':=M') xs h]
  case callv x xs =>
   simp only [HOp.vals,bz,List.mem_append] at h
   cases x
   case fn f cap =>
    have:=iZ (T:=fB) (L:=M) (L':=M') (xs++cap) fun x hx=>h x (by rw [oH,List.mem_append] at hx;exact hx.symm)
    simp only [mM,this]
   all_goals rfl
  all_goals exact congrArg (·.2.2) (xW (L:=M) (L':=M') h fr)
theorem Dy {op:HOp HV} {e:HV×List Upd} (h:op.touch=false\/∀x∈bz op.vals,M x=M' x):oI D M fr e op=oI D M' fr e op:=by
 rcases h with h|h
 ·cases op<;>first|cases h;done|exact congrArg (fun q:HV×List Upd×Prop=>e=(q.1,q.2.1)) (FP (L:=M) (L':=M') h fr)
 ·cases op
  case call f xs=>simp only [oI,iZ (L:=M) (L':=M') xs h]
  case callv x xs =>
   simp only [HOp.vals,bz,List.mem_append] at h
   cases x
   case fn f cap =>
    have:=iZ (T:=fB) (L:=M) (L':=M') (xs++cap) fun x hx=>h x (by rw [oH,List.mem_append] at hx;exact hx.symm)
    simp only [oI,this]
   all_goals rfl
  all_goals exact congrArg (fun q:HV×List Upd×Prop=>e=(q.1,q.2.1)) (xW (L:=M) (L':=M') h fr)
theorem ng {o:aS} (hS:∀t∈looks all o,S t=S' t) (hM:o.op.touch=false\/∀x∈jb o S,M x=M' x):gp C D all fr o S M=gp C D all fr o S' M':=by
 unfold gp
 rw [sN hS,jE hS]
 rw [jb,jE hS] at hM
 rw [BU (M:=M) (M':=M') (by rw [HOp.touch_map];exact hM)]
theorem oq {o:aS} {e:HV×List Upd} (hS:∀t∈looks all o,S t=S' t) (hM:o.op.touch=false\/∀x∈jb o S,M x=M' x):iI D all fr o S M e=iI D all fr o S' M' e:=by
 unfold iI
 rw [sN hS,jE hS]
 rw [jb,jE hS] at hM
 rw [Dy (M:=M) (M':=M') (by rw [HOp.touch_map];exact hM)]
def uj (nx i x:Nat):Prop:=nx+stride*i<=x/\x<nx+stride*(i+1)
def oP (nx:Nat) (X:Nat->Prop) (x:Nat):Prop:=x<nx\/∃k,X k/\uj nx k x
structure Inv (nx:Nat) (X:Nat->Prop) (S M:Lk):Prop where
 slots:∀t,(S t).inn (oP nx X)
 trees:∀id,(M id).inn (oP nx X)
 alive:∀id,M id≠.dead->oP nx X id
theorem EU {i j x:Nat} (h1:uj nx i x) (h2:uj nx j x):i=j:=by
 unfold uj stride at *;omega
theorem nC {X:Nat->Prop} {x:Nat} (h:oP nx X x) (hr:uj nx i x):X i:=by
 rcases h with h|⟨k,hk,h⟩
 ·unfold uj stride at hr;omega
 ·rw [EU hr h];exact hk
theorem kH {X Y:Nat->Prop} (h:∀k,X k->Y k) {x:Nat} (hx:oP nx X x):oP nx Y x:=hx.imp id fun ⟨k,hk,hr⟩=>⟨k,h k hk,hr⟩
def lC (o:aS):Bool:=(bz o.op.lits).isEmpty&&o.op.vals.all fun|.c v=>v.deep.isEmpty|_=>true
theorem sU {X:Nat->Prop} (hI:Inv nx X S M) {o:aS} (hl:lC o=true):innL (oP nx X) (o.op.map (dZ S)).vals:=by
 rw [HOp.vals_map]
 intro v hv
 obtain ⟨x,hx,rfl⟩:=List.mem_map.1 hv
 cases x with
 | t i=>exact hI.slots i
 | c v =>
  simp only [lC,Bool.and_eq_true,List.all_eq_true] at hl
  have:=hl.2 _ hx
  simp only [List.isEmpty_iff] at this
  intro y hy
  simp only [dZ,this] at hy
  cases hy
theorem LM {X:Nat->Prop} {o:aS} (hl:lC o=true):innL (oP nx X) (o.op.map (dZ S)).lits:=by
 rw [HOp.lits_map,innL_iff]
 simp only [lC,Bool.and_eq_true,List.isEmpty_iff] at hl
 rw [hl.1]
 simp
theorem MB {X:Nat->Prop} {op:HOp HV} {e:HV×List Upd} (hv:innL (oP nx X) op.vals) (hl:innL (oP nx X) op.lits) (hT:∀id,(M id).inn (oP nx X)) (hs:mM C D M (nx+stride*i) op) (h:oI D M (nx+stride*i) e op) :
  e.1.inn (oP nx fun k=>X k\/k=i)/\(∀u∈e.2,Ov (oP nx fun k=>X k\/k=i) u)/\(∀x∈iQ e.2,uj nx i x\/(op.wrt=true/\x∈bz op.vals))/\(op.killer=false->∀u∈e.2,∃id t,u=.put id t):=by
 have up:∀x,oP nx X x->oP nx (fun k=>X k\/k=i) x:=fun x hx=>kH (fun k hk=>.inl hk) hx
 have r0:uj nx i (nx+stride*i):=by unfold uj stride;omega
 have call:∀ (f:FuncId) (xs:List HV) (args:List HV),(C f args (D f args)/\∀r,D f args r->r.deep=[]->(bD xs || r.noRd)=true/\(unpack (nx+stride*i) r).2.2<=nx+stride*i+stride)->(∃r,D f args r/\r.deep=[]/\e=((unpack (nx+stride*i) r).1,(unpack (nx+stride*i) r).2.1)) ->
   e.1.inn (oP nx fun k=>X k\/k=i)/\(∀u∈e.2,Ov (oP nx fun k=>X k\/k=i) u)/\(∀x∈iQ e.2,uj nx i x)/\∀u∈e.2,∃id t,u=.put id t:=by
  rintro f xs args ⟨_,hb⟩ ⟨r,hr,hd,rfl⟩
  obtain ⟨_,_,_,h4,h5⟩:=uq id r (nx+stride*i) (nx+stride*i) hd
  have h6:=(hb r hr hd).2
  have R:∀x,nx+stride*i<=x->x<(unpack (nx+stride*i) r).2.2->uj nx i x:=fun x h1 h2=>⟨h1,by unfold stride at *;omega⟩
  refine ⟨HV.inn_mono h4 fun x hx=>.inr ⟨i,.inr rfl,R x hx.1 hx.2⟩,?_,?_,?_⟩
  ·intro u hu
   obtain ⟨id,t,rfl,h1,h2,h3⟩:=h5 u hu
   exact ⟨.inr ⟨i,.inr rfl,R id h1 h2⟩,fun x hx=>by rw [h3] at hx;cases hx⟩
  ·intro x hx
   generalize (unpack (nx+stride*i) r).2.1=us at h5 hx
   induction us with
   | nil=>cases hx
   | cons u us ih =>
    obtain ⟨id,t,rfl,h1,h2,h3⟩:=h5 u (by simp)
    simp only [iQ,List.mem_cons] at hx
    rcases hx with rfl|hx
    ·exact R _ h1 h2
    ·exact ih (fun u hu=>h5 u (by simp [hu])) hx
  ·intro u hu
   obtain ⟨id,t,rfl,_⟩:=h5 u hu
   exact ⟨id,t,rfl⟩
 have plain:e=((aH M (nx+stride*i) op).1,(aH M (nx+stride*i) op).2.1)->e.1.inn (oP nx fun k=>X k\/k=i)/\(∀u∈e.2,Ov (oP nx fun k=>X k\/k=i) u)/\(∀x∈iQ e.2,uj nx i x\/(op.wrt=true/\x∈bz op.vals))/\(op.killer=false->∀u∈e.2,∃id t,u=.put id t):=by
  intro he
  obtain ⟨us0,a1,a2,a3,a4⟩:=wu (L:=M) (op:=op) (D:=bz op.vals) hv (fun x hx=>hx) hl hT
  have hv':=innL_iff.1 hv
  have b1:∀u∈us0,Ov (oP nx fun k=>X k\/k=i) u:=fun u hu=>by
   have:=a1 u hu
   cases u with
   | put id t=>exact ⟨up _ (hv' id this.1),HV.inn_mono this.2 up⟩
   | kill=>trivial
  have b2:∀x∈iQ us0,uj nx i x\/(op.wrt=true/\x∈bz op.vals):=by
   intro x hx
   right
   refine ⟨?_,?_⟩
   ·cases hw:op.wrt with
    | true=>rfl
    | false=>rw [a2 hw] at hx;cases hx
   ·clear a2 a3 a4 b1
    induction us0 with
    | nil=>cases hx
    | cons u us ih =>
     have ih:=ih (fun u hu=>a1 u (by simp [hu]))
     cases u with
     | put id t =>
      simp only [iQ,List.mem_cons] at hx
      rcases hx with rfl|hx
      ·exact (a1 (.put x t) (by simp)).1
      ·exact ih hx
     | kill=>exact ih hx
  rcases a4 with ⟨v,q,h1,h2⟩|⟨mk,T,q,h0,h1,h2⟩
  ·rw [h2] at he
   subst he
   exact ⟨HV.inn_mono h1 up,b1,b2,a3⟩
  ·rw [h2] at he
   subst he
   refine ⟨?_,?_,?_,?_⟩
   ·rcases h0 with ⟨sz,n,rfl⟩|rfl|rfl
    ·simp only [zD];exact .inr ⟨i,.inr rfl,r0⟩
    ·simp only [sH];exact .inr ⟨i,.inr rfl,r0⟩
    ·simp only [sK];exact .inr ⟨i,.inr rfl,r0⟩
   ·intro u hu
    simp only [List.mem_append,List.mem_singleton] at hu
    rcases hu with hu|rfl
    ·exact b1 u hu
    ·exact ⟨.inr ⟨i,.inr rfl,r0⟩,HV.inn_mono h1 up⟩
   ·intro x hx
    simp only [Aq,iQ,List.mem_append,List.mem_singleton] at hx
    rcases hx with hx|rfl
    ·exact b2 x hx
    ·exact .inl r0
   ·intro hk u hu
    simp only [List.mem_append,List.mem_singleton] at hu
    rcases hu with hu|rfl
    ·exact a3 hk u hu
    ·exact ⟨_,_,rfl⟩
 have w:(e.1.inn (oP nx fun k=>X k\/k=i)/\(∀u∈e.2,Ov (oP nx fun k=>X k\/k=i) u)/\(∀x∈iQ e.2,uj nx i x)/\∀u∈e.2,∃id t,u=.put id t)->e.1.inn (oP nx fun k=>X k\/k=i)/\(∀u∈e.2,Ov (oP nx fun k=>X k\/k=i) u)/\(∀x∈iQ e.2,uj nx i x\/(op.wrt=true/\x∈bz op.vals))/\(op.killer=false->∀u∈e.2,∃id t,u=.put id t) :=
  fun ⟨a,b,c,d⟩=>⟨a,b,fun x hx=>.inl (c x hx),fun _=>d⟩
 cases op
 case call f xs=>exact w (call f xs _ hs h)
 case callv x xs =>
  cases x
  case fn f cap=>exact w (call f (xs++cap) _ hs h)
  all_goals exact plain h
 all_goals exact plain h
mutual
theorem tH {p:Nat->Prop} (id len:Nat):∀v:HV,v.inn p->(v.kill id len).inn p
 | .ref i q sz o n,h=>by simp only [HV.kill];split;exact dE;exact h
 | .pref i q o,h=>by simp only [HV.kill];split;exact dE;exact h
 | .mref i q,h=>by simp only [HV.kill];split;exact dE;exact h
 | .agg cs,h=>by simp only [HV.kill,ou] at h ⊢;exact qX id len cs h
 | .tup cs,h=>by simp only [HV.kill,tX] at h ⊢;exact qX id len cs h
 | .fn f cs,h=>by simp only [HV.kill,wL] at h ⊢;exact qX id len cs h
 | .int ..,h=>h
 | .bool _,h=>h
 | .str _,h=>h
 | .nils,h=>h
 | .nilp,h=>h
 | .nilf,h=>h
 | .sl ..,h=>h
 | .osl ..,h=>h
 | .ptr ..,h=>h
 | .optr _,h=>h
 | .nilm,h=>h
 | .rmap ..,h=>h
 | .omap ..,h=>h
 | .oitr ..,h=>h
 | .dead,h=>h
theorem qX {p:Nat->Prop} (id len:Nat):∀l:List HV,innL p l->innL p (lQ id len l)
 | [],h=>h
 | v::r,h=>by simp only [lQ,bf] at h ⊢;exact ⟨tH id len v h.1,qX id len r h.2⟩
end
theorem EZ {p:Nat->Prop} {us:List Upd} {S:Lk} (h:∀t,(S t).inn p) (t:Nat):(qE S us t).inn p:=by
 induction us generalizing S with
 | nil=>exact h t
 | cons u us ih =>
  cases u with
  | put=>exact ih h
  | kill id len=>exact ih fun t=>tH id len _ (h t)
theorem jL {us:List Upd} {S:Lk} (h:∀u∈us,∃id t,u=.put id t):qE S us=S:=by
 induction us generalizing S with
 | nil=>rfl
 | cons u us ih =>
  obtain ⟨id,t,rfl⟩:=h u (by simp)
  exact ih fun u hu=>h u (by simp [hu])
theorem mQ {X:Nat->Prop} (hI:Inv nx X S M) {o:aS} (hl:lC o=true) {e:HV×List Upd} (hs:gp C D all (nx+stride*i) o S M) (h:iI D all (nx+stride*i) o S M e) :
  e.1.inn (oP nx fun k=>X k\/k=i)/\(∀u∈e.2,Ov (oP nx fun k=>X k\/k=i) u)/\(∀x∈iQ e.2,uj nx i x\/(o.op.wrt=true/\x∈jb o S))/\(o.op.killer=false->∀u∈e.2,∃id t,u=.put id t):=by
 unfold gp at hs
 unfold iI at h
 split at hs
 ·rename_i hg
  rw [hg] at h
  have:=MB (sU hI hl) (LM hl) hI.trees hs h
  rw [HOp.wrt_map,HOp.killer_map] at this
  exact this
 ·rename_i hg
  rw [hg] at h
  subst h
  simp [iQ]
 ·exact hs.elim
theorem Inv.step {X:Nat->Prop} (hI:Inv nx X S M) {o:aS} {e:HV×List Upd} (h1:e.1.inn (oP nx fun k=>X k\/k=i)) (h2:∀u∈e.2,Ov (oP nx fun k=>X k\/k=i) u):Inv nx (fun k=>X k\/k=i) (kG o e S) (qL e M):=by
 have up:∀x,oP nx X x->oP nx (fun k=>X k\/k=i) x:=fun x hx=>kH (fun k hk=>.inl hk) hx
 refine ⟨fun t=>?_,fun id=>?_,fun id hid=>?_⟩
 ·unfold kG
  split
  ·exact h1
  ·exact EZ (fun t=>HV.inn_mono (hI.slots t) up) t
 ·exact Oe (fun id=>HV.inn_mono (hI.trees id) up) h2 id
 ·by_cases ht:id∈iQ e.2
  ·generalize e.2=us at h2 ht
   induction us with
   | nil=>cases ht
   | cons u us ih =>
    cases u with
    | put j t =>
     simp only [iQ,List.mem_cons] at ht
     rcases ht with rfl|ht
     ·exact (h2 (.put id t) (by simp)).1
     ·exact ih (fun u hu=>h2 u (by simp [hu])) ht
    | kill=>exact ih (fun u hu=>h2 u (by simp [hu])) ht
  ·unfold qL at hid
   rw [lh ht] at hid
   exact up _ (hI.alive id hid)
end
end Go.HL
end
section
namespace Go.HL
open Go.RowKit
def oU (masks:List Nat) (k i:Nat):Bool:=(masks.getD i 0).testBit k
def pI (all:List aS) (x y:aS):Bool :=
 (match x.dst with|some d=>!(looks all y).contains d&&y.dst != some d|none=>true)&&(match y.dst with|some d=>!(looks all x).contains d|none=>true)
def tK (x y:aS):Bool:=(x.op.wrt&&y.op.touch) || (y.op.wrt&&x.op.touch)
def qB (o:aS):Bool:=match o.op,o.guard with
 | .ext (.t _) _,none=>true
 | _,_=>false
def wV (all:List aS) (x y:aS):Bool:=pI all x y&&(qB x || qB y || (!x.op.killer&&!y.op.killer))
def JW (masks:List Nat) (all:List aS) (i:Nat) (o:aS):Bool :=
 decide (masks.getD i 0<2 ^ i)&&lC o&&(List.range i).all fun k=>oU masks k i || (match all[k]? with|some q=>wV all q o|none=>false)
def lL (masks:List Nat) (all:List aS):Bool :=
 (List.range all.length).all fun i=>match all[i]? with|some o=>JW masks all i o|none=>false
theorem ny {all:List aS} {x y:aS} (h:pI all x y=true):(∀d,x.dst=some d->d ∉ looks all y)/\(∀d,x.dst=some d->y.dst≠some d)/\(∀d,y.dst=some d->d ∉ looks all x):=by
 refine ⟨fun d hd=>?_,fun d hd=>?_,fun d hd=>?_⟩<;>simp [pI,hd] at h
 ·exact h.1.1
 ·exact h.1.2
 ·exact h.2
theorem BF {all:List aS} {x y:aS} (h:pI all x y=true):pI all y x=true:=by
 obtain ⟨h1,h2,h3⟩:=ny h
 unfold pI
 cases hx:x.dst with
 | none =>
  cases hy:y.dst with
  | none=>rfl
  | some d=>have:=h3 d hy;simp [this]
 | some d =>
  have a1:=h1 d hx
  have a2:=h2 d hx
  cases hy:y.dst with
  | none=>simp [a1]
  | some d' =>
   have a3:=h3 d' hy
   rw [hy] at a2
   have:¬ d=d':=fun e=>a2 (by rw [e])
   simp [a1,a3,this]
theorem Io (x y:aS):tK x y=tK y x:=by unfold tK;rw [Bool.or_comm]
def zF (o:aS) (S:Lk):Option Nat:=match o.op.map (dZ S) with
 | .load false _ (.pref id [] _)=>some id
 | _=>none
def oG (o:aS) (S:Lk):List Nat:=match zF o S with
 | some id=>[2*id+1]
 | none=>(jb o S).map (2*·)
def yH (o:aS) (S:Lk):Option Nat:=match o.op.map (dZ S) with
 | .app true _ _ (.ref id (_::_::_) _ _ _) _=>some id
 | _=>none
def rZ (o:aS) (S:Lk) (us:List Upd):List Nat:=(iQ us).flatMap fun x=>if yH o S=some x then [2*x] else [2*x,2*x+1]
def vk:HV->HV
 | .osl sz n _=>.osl sz n []
 | .optr _=>.optr []
 | .omap m ks _=>.omap m ks []
 | v=>v
def shallow (t:HV):List HV:=(bH t).map vk
def vI (c:Nat) (M M':Lk):Prop:=if c % 2=0 then M (c / 2)=M' (c / 2) else shallow (M (c / 2))=shallow (M' (c / 2))
theorem F8 {c:Nat} {M M':Lk} (h:M (c / 2)=M' (c / 2)):vI c M M':=by
 unfold vI;split
 ·exact h
 ·rw [h]
theorem pX {o:aS} {S:Lk} {c:Nat} (h:c∈oG o S):c / 2∈jb o S:=by
 unfold oG at h
 split at h
 ·rename_i id hs
  simp only [List.mem_singleton] at h
  subst h
  unfold zF at hs
  split at hs
  ·rename_i sz id' off ho
   cases hs
   unfold jb
   rw [ho]
   simp [HOp.vals,bz,HV.deep];omega
  ·cases hs
 ·obtain ⟨x,hx,rfl⟩:=List.mem_map.1 h
  simpa using hx
theorem BR {o:aS} {S:Lk} {us:List Upd} {c:Nat} (h:c∈rZ o S us):c / 2∈iQ us:=by
 unfold rZ at h
 obtain ⟨x,hx,hc⟩:=List.mem_flatMap.1 h
 split at hc
 ·simp only [List.mem_singleton] at hc;subst hc;simpa using hx
 ·simp only [List.mem_cons,List.not_mem_nil,or_false] at hc
  rcases hc with rfl|rfl
  ·simpa using hx
  ·have:(2*x+1) / 2=x:=by omega
   rw [this];exact hx
theorem xE {o:aS} {S:Lk} {us:List Upd} {x:Nat} (h:x∈iQ us):2*x∈rZ o S us:=by
 unfold rZ
 refine List.mem_flatMap.2 ⟨x,h,?_⟩
 split<;>simp
theorem EX {o:aS} {S:Lk} {us:List Upd} {x:Nat} (h:x∈iQ us) (h2:2*x+1 ∉ rZ o S us):yH o S=some x:=by
 by_cases hd:yH o S=some x
 ·exact hd
 ·exact absurd (List.mem_flatMap.2 ⟨x,h,by rw [if_neg hd];simp⟩) h2
theorem NV {o:aS} {S:Lk} (h:o.op.wrt=true):oG o S=(jb o S).map (2*·):=by
 have:zF o S=none:=by
  unfold zF
  obtain ⟨d,op,g⟩:=o
  cases op<;>simp only [HOp.wrt] at h<;>first|rfl|(cases h;done)
 unfold oG;rw [this]
theorem Ej {x:HV} {a:Nat} {q:List Nat} (v:HV):vk (dJ x v (a::q))=vk v:=by cases v<;>rfl
theorem zL {x t:HV} {a b:Nat} {q:List Nat}:shallow (dJ x t (a::b::q))=shallow t:=by
 have key:∀cs:List HV,(cs.set a (dJ x (cs.getD a .dead) (b::q))).map vk=cs.map vk:=fun cs=>by
  rw [List.map_set,Ej]
  apply List.ext_getElem?
  intro k
  rw [List.getElem?_set]
  split
  ·rename_i e;subst e
   split
   ·rename_i h;simp at h;simp [h]
   ·rename_i h;simp at h;simp [h]
  ·rfl
 cases t<;>simp only [dJ,shallow,bH]<;>first|rfl|exact key _
theorem xg (id:Nat) (p:List Nat) (j:Nat) (v:HV):look id p j v=look id p j (vk v):=by
 cases v<;>rfl
theorem yC {id off sz fr:Nat} {M M':Lk} (h:shallow (M id)=shallow (M' id)):aH M fr (.load false sz (.pref id [] off))=aH M' fr (.load false sz (.pref id [] off)):=by
 have hl:(bH (M id)).length=(bH (M' id)).length:=by
  have:=congrArg List.length h
  simpa [shallow] using this
 have hg:vk ((bH (M id)).getD off .dead)=vk ((bH (M' id)).getD off .dead):=by
  have:=congrArg (fun l:List HV=>l[off]?) h
  simp only [shallow,List.getElem?_map] at this
  simp only [List.getD_eq_getElem?_getD]
  cases h1:(bH (M id))[off]?<;>cases h2:(bH (M' id))[off]?<;>rw [h1,h2] at this<;>simp_all
 have e1:look id [] off ((bH (M id)).getD off .dead)=look id [] off ((bH (M' id)).getD off .dead):=by rw [xg,hg,<- xg]
 simp only [aH,aQ,e1,hl,Bool.false_eq_true,if_false]
abbrev lI:=List (Nat×List Nat×List Nat)
def chk (masks:List Nat) (all:List aS) (i:Nat) (o:aS) (e:HV×List Upd) (S:Lk) (q:Nat×List Nat×List Nat):Prop :=
 oU masks q.1 i=false->oU masks i q.1=false->∀o',all[q.1]?=some o'->tK o' o=true->(∀x∈rZ o S e.2,x ∉ q.2.2)/\∀x∈q.2.1,x ∉ oG o S
section
variable {C:lH} {D:FuncId->List HV->HV->Prop} {all:List aS} {masks:List Nat} {nx:Nat} {K:Lk->Lk->Prop}
def dr (C:lH) (D:FuncId->List HV->HV->Prop) (all:List aS) (masks:List Nat) (nx:Nat) (K:Lk->Lk->Prop):List Nat->lI->Lk->Lk->Prop
 | [],_,S,M=>K S M
 | i::l,log,S,M=>∃o,all[i]?=some o/\gp C D all (nx+stride*i) o S M/\(∃e,iI D all (nx+stride*i) o S M e) /\
   ∀e,iI D all (nx+stride*i) o S M e->(∀q∈log,chk masks all i o e S q)/\dr C D all masks nx K l ((i,rZ o S e.2,oG o S)::log) (kG o e S) (qL e M)
theorem QB:∀ {l:List Nat} {log log':lI} {S M:Lk},dr C D all masks nx K l log S M->(∀q∈log',q∈log)->dr C D all masks nx K l log' S M:=by
 intro l
 induction l with
 | nil=>intro log log' S M h _;exact h
 | cons i l ih =>
  intro log log' S M h hl
  obtain ⟨o,ho,hs,he,h⟩:=h
  refine ⟨o,ho,hs,he,fun e hre=>⟨fun q hq=>(h e hre).1 q (hl q hq),ih (h e hre).2 ?_⟩⟩
  intro q hq
  rcases List.mem_cons.1 hq with rfl|hq
  ·simp
  ·exact List.mem_cons_of_mem _ (hl q hq)
theorem Bh {o:aS} {S S':Lk} (hS:∀t∈looks all o,S t=S' t):jb o S=jb o S':=by unfold jb;rw [jE hS]
theorem jS {o:aS} {S S':Lk} (hS:∀t∈looks all o,S t=S' t):oG o S=oG o S':=by unfold oG zF;rw [Bh hS,jE hS]
theorem jX {o:aS} {S S':Lk} (hS:∀t∈looks all o,S t=S' t) (us:List Upd):rZ o S us=rZ o S' us:=by unfold rZ yH;rw [jE hS]
theorem sF {fr:Nat} {o:aS} {S S' M M':Lk} (hS:∀t∈looks all o,S t=S' t) (hM:o.op.touch=false\/∀c∈oG o S,vI c M M'):gp C D all fr o S M=gp C D all fr o S' M':=by
 rcases hM with h|h
 ·exact ng hS (.inl h)
 ·cases hs:zF o S with
  | none =>
   unfold oG at h
   rw [hs] at h
   refine ng hS (.inr fun x hx=>?_)
   have:=h (2*x) (List.mem_map_of_mem hx)
   unfold vI at this
   rw [if_pos (by omega)] at this
   simpa using this
  | some id =>
   unfold oG at h
   rw [hs] at h
   have hv:=h (2*id+1) (by simp)
   unfold vI at hv
   rw [if_neg (by omega),show (2*id+1) / 2=id by omega] at hv
   unfold gp
   rw [<- sN hS,<- jE hS]
   unfold zF at hs
   split at hs
   ·rename_i sz id' off ho
    cases hs
    rw [ho]
    simp only [mM,yC hv]
   ·cases hs
theorem qw {fr:Nat} {o:aS} {e:HV×List Upd} {S S' M M':Lk} (hS:∀t∈looks all o,S t=S' t) (hM:o.op.touch=false\/∀c∈oG o S,vI c M M'):iI D all fr o S M e=iI D all fr o S' M' e:=by
 rcases hM with h|h
 ·exact oq hS (.inl h)
 ·cases hs:zF o S with
  | none =>
   unfold oG at h
   rw [hs] at h
   refine oq hS (.inr fun x hx=>?_)
   have:=h (2*x) (List.mem_map_of_mem hx)
   unfold vI at this
   rw [if_pos (by omega)] at this
   simpa using this
  | some id =>
   unfold oG at h
   rw [hs] at h
   have hv:=h (2*id+1) (by simp)
   unfold vI at hv
   rw [if_neg (by omega),show (2*id+1) / 2=id by omega] at hv
   unfold iI
   rw [<- sN hS,<- jE hS]
   unfold zF at hs
   split at hs
   ·rename_i sz id' off ho
    cases hs
    rw [ho]
    simp only [oI,yC hv]
   ·cases hs
theorem AA {fr:Nat} {o:aS} {e:HV×List Upd} {S M:Lk} {x:Nat} (hs:gp C D all fr o S M) (hr:iI D all fr o S M e) (hd:yH o S=some x) (hx:x≠fr):shallow (qL e M x)=shallow (M x):=by
 unfold yH at hd
 split at hd
 ·rename_i sz bytes id a b q sz2 off n y ho
  cases hd
  unfold gp at hs
  unfold iI at hr
  split at hs
  ·rename_i hg
   rw [hg,ho] at hr
   rw [ho] at hs
   have hn:(dW M true sz y).2.2.1=[]:=by
    unfold dW
    split<;>(try split)<;>(try split)<;>first|rfl|simp_all
   simp only [mM,aH] at hs
   simp only [oI,aH] at hr
   rw [hn] at hs hr
   simp only [Lk.upd] at hs hr
   cases ht:aQ (M x) (a::b::q)<;>rw [ht] at hs hr<;>simp only at hs hr<;>(first|exact hs.elim|skip)
   subst hr
   unfold qL
   simp only [List.nil_append,Lk.upd,if_neg hx,if_true]
   exact zL
  ·rename_i hg
   rw [hg] at hr
   subst hr
   rfl
  ·exact hs.elim
 ·cases hd
theorem uS {o:aS} (h:qB o=true):∃d k i,o=⟨d,.ext (.t k) i,none⟩:=by
 obtain ⟨d,op,g⟩:=o
 cases op<;>simp only [qB] at h<;>(first|(cases h;done)|skip)
 rename_i x i
 cases x<;>cases g<;>simp only at h<;>(first|(cases h;done)|exact ⟨d,_,i,rfl⟩)
theorem mX {o o':aS} (h:qB o=true):tK o' o=false/\tK o o'=false:=by
 obtain ⟨d,k,i,rfl⟩:=uS h
 simp [tK,HOp.wrt,HOp.touch]
def iK:List Upd->HV->HV
 | [],v=>v
 | .put _ _::r,v=>iK r v
 | .kill id len::r,v=>iK r (v.kill id len)
theorem uy:∀ (us:List Upd) (S:Lk) (t:Nat),qE S us t=iK us (S t)
 | [],_,_=>rfl
 | .put _ _::r,S,t=>uy r S t
 | .kill id len::r,S,t=>uy r (fun t=>(S t).kill id len) t
theorem zf (id len:Nat):∀l:List HV,lQ id len l=l.map fun v=>v.kill id len
 | []=>rfl
 | v::r=>by rw [lQ,zf id len r];rfl
theorem mF:∀ (us:List Upd) (cs:List HV),iK us (.tup cs)=.tup (cs.map (iK us))
 | [],cs=>by simp [iK]
 | .put _ _::r,cs=>by simp only [iK];exact mF r cs
 | .kill id len::r,cs=>by
  simp only [iK,HV.kill,zf]
  rw [mF r,List.map_map]
  rfl
theorem pF:∀ (us:List Upd) (v:HV) {cs:List HV},iK us v=.tup cs->∃cs',v=.tup cs'
 | [],v,cs,h=>⟨cs,h⟩
 | .put _ _::r,v,cs,h=>pF r v h
 | .kill id len::r,v,cs,h=>by
  obtain ⟨cs',h'⟩:=pF r _ h
  cases v<;>simp only [HV.kill] at h'<;>(first|exact ⟨_,rfl⟩|(cases h';done)|(split at h'<;>cases h'))
theorem qJ {d:Option Nat} {k i fr:Nat} {S M:Lk} {e:HV×List Upd} (hs:gp C D all fr ⟨d,.ext (.t k) i,none⟩ S M):iI D all fr ⟨d,.ext (.t k) i,none⟩ S M e <-> ∃cs,S k=.tup cs/\i<cs.length/\e=(cs.getD i .dead,[]):=by
 have hs':(aH M fr (.ext (S k) i)).2.2:=hs
 have hd:iI D all fr ⟨d,.ext (.t k) i,none⟩ S M e <-> e=((aH M fr (.ext (S k) i)).1,(aH M fr (.ext (S k) i)).2.1):=Iff.rfl
 rw [hd]
 cases hk:S k<;>rw [hk] at hs'<;>simp only [aH] at hs' ⊢<;>(first|exact hs'.elim|skip)
 rename_i cs
 constructor
 ·intro h;exact ⟨cs,rfl,hs',h⟩
 ·rintro ⟨cs',h1,h2,h3⟩;cases h1;exact h3
theorem ext_side {d:Option Nat} {k i fr:Nat} {S M:Lk}:gp C D all fr ⟨d,.ext (.t k) i,none⟩ S M <-> ∃cs,S k=.tup cs/\i<cs.length:=by
 have hd:gp C D all fr ⟨d,.ext (.t k) i,none⟩ S M <-> (aH M fr (.ext (S k) i)).2.2:=Iff.rfl
 rw [hd]
 cases hk:S k<;>simp [aH]
theorem FW:∀ {l:List Nat} {log log':lI} {S M:Lk},dr C D all masks nx K l log S M->(∀q∈log',q∈log\/∃o,all[q.1]?=some o/\qB o=true)->dr C D all masks nx K l log' S M:=by
 intro l
 induction l with
 | nil=>intro log log' S M h _;exact h
 | cons i l ih =>
  intro log log' S M h hl
  obtain ⟨o,ho,hs,he,h⟩:=h
  refine ⟨o,ho,hs,he,fun e hre=>⟨fun q hq=>?_,ih (h e hre).2 ?_⟩⟩
  ·rcases hl q hq with h1|⟨o1,h1,h2⟩
   ·exact (h e hre).1 q h1
   ·intro _ _ o' ho' hsu
    rw [h1] at ho';cases ho'
    rw [(mX h2).2] at hsu;cases hsu
  ·intro q hq
   rcases List.mem_cons.1 hq with rfl|hq
   ·exact .inl (by simp)
   ·rcases hl q hq with h|h
    ·exact .inl (List.mem_cons_of_mem _ h)
    ·exact .inr h
theorem lY (o:aS) (e:HV×List Upd) (S:Lk) (t:Nat):kG o e S t=if o.dst=some t then e.1 else iK e.2 (S t):=by
 unfold kG;rw [uy]
theorem AQ {i j:Nat} {l:List Nat} {log:lI} {S M:Lk} {oi oj:aS} (hoi:all[i]?=some oi) (hoj:all[j]?=some oj) (hx:qB oi=true) (hap:pI all oi oj=true) (h:dr C D all masks nx K (i::j::l) log S M):dr C D all masks nx K (j::i::l) log S M:=by
 obtain ⟨oi',hoi',si,⟨ei,ri⟩,hi⟩:=h
 rw [hoi] at hoi';cases hoi'
 have hxx:=hx
 obtain ⟨d,k,n,rfl⟩:=uS hx
 obtain ⟨ap1,ap2,ap3⟩:=ny hap
 obtain ⟨cs,hk,hn,rfl⟩:=(qJ si).1 ri
 obtain ⟨_,oj',hoj',sj,⟨ej0,rj0⟩,hj⟩:=hi _ ri
 rw [hoj] at hoj';cases hoj'
 have lj:∀t∈looks all oj,S t=kG ⟨d,.ext (.t k) n,none⟩ (cs.getD n .dead,[]) S t:=fun t ht=>by
  rw [lY,if_neg (fun e=>ap1 t e ht)];rfl
 have aj:oj.op.touch=false\/∀x∈jb oj S,M x=qL (cs.getD n .dead,[]) M x:=.inr fun _ _=>rfl
 have ej:=fun e=>oq (D:=D) (fr:=nx+stride*j) (e:=e) lj aj
 have hkd:∀t,oj.dst=some t->t≠k:=fun t ht e=>ap3 t ht (by subst e;simp [looks,HOp.vals,slotsOf])
 refine ⟨oj,hoj,by rw [ng lj aj];exact sj,⟨ej0,by rw [ej];exact rj0⟩,fun e2 r2=>⟨?_,?_⟩⟩
 ·intro q hq a b o' ho' hs
  have:=(hj e2 (by rw [<- ej];exact r2)).1 q (List.mem_cons_of_mem _ hq) a b o' ho' hs
  rw [<- jS lj,<- jX lj] at this
  exact this
 ·have hk2:kG oj e2 S k=.tup (cs.map (iK e2.2)):=by
   rw [lY,if_neg (fun e=>hkd k e rfl),hk,mF]
  have si2:gp C D all (nx+stride*i) ⟨d,.ext (.t k) n,none⟩ (kG oj e2 S) (qL e2 M):=ext_side.2 ⟨_,hk2,by simpa using hn⟩
  refine ⟨_,hoi,si2,⟨_,(qJ si2).2 ⟨_,hk2,by simpa using hn,rfl⟩⟩,fun e1 r1=>⟨?_,?_⟩⟩
  ·intro q hq a b o' ho' hs
   rw [(mX hxx).1] at hs;cases hs
  ·obtain ⟨cs2,hk3,hn2,rfl⟩:=(qJ si2).1 r1
   rw [hk2] at hk3;cases hk3
   have hd:=(hj e2 (by rw [<- ej];exact r2)).2
   have eS:kG oj e2 (kG ⟨d,.ext (.t k) n,none⟩ (cs.getD n .dead,[]) S)=kG ⟨d,.ext (.t k) n,none⟩ ((cs.map (iK e2.2)).getD n .dead,[]) (kG oj e2 S):=by
    funext t
    simp only [lY]
    have hg:(cs.map (iK e2.2)).getD n .dead=iK e2.2 (cs.getD n .dead):=by
     simp only [List.getD_eq_getElem?_getD,List.getElem?_map,List.getElem?_eq_getElem hn,Option.map_some,Option.getD_some]
    by_cases h1:d=some t
    ·have:¬ oj.dst=some t:=ap2 t h1
     simp only [h1,this,if_true,if_false,hg,iK]
    ·simp only [h1,if_false,iK]
   rw [eS] at hd
   refine FW hd fun q hq=>?_
   simp only [List.mem_cons] at hq
   rcases hq with rfl|rfl|hq
   ·exact .inr ⟨_,hoi,hxx⟩
   ·rw [jS lj,jX lj];exact .inl (List.mem_cons_self ..)
   ·exact .inl (List.mem_cons_of_mem _ (List.mem_cons_of_mem _ hq))
theorem zV {i j:Nat} {l:List Nat} {log:lI} {S M:Lk} {oi oj:aS} (hoi:all[i]?=some oi) (hoj:all[j]?=some oj) (hx:qB oi=true) (hap:pI all oi oj=true) (h:dr C D all masks nx K (j::i::l) log S M):dr C D all masks nx K (i::j::l) log S M:=by
 obtain ⟨oj',hoj',sj,⟨ej0,rj0⟩,hj⟩:=h
 rw [hoj] at hoj';cases hoj'
 have hxx:=hx
 obtain ⟨d,k,n,rfl⟩:=uS hx
 obtain ⟨ap1,ap2,ap3⟩:=ny hap
 have hkd:∀t,oj.dst=some t->t≠k:=fun t ht e=>ap3 t ht (by subst e;simp [looks,HOp.vals,slotsOf])
 have hk2:∀e2,kG oj e2 S k=iK e2.2 (S k):=fun e2=>by rw [lY,if_neg (fun e=>hkd k e rfl)]
 obtain ⟨_,oi',hoi',si0,_,_⟩:=hj ej0 rj0
 rw [hoi] at hoi';cases hoi'
 obtain ⟨cs0,hk0,hn0⟩:=ext_side.1 si0
 rw [hk2] at hk0
 obtain ⟨cs,hk⟩:=pF _ _ hk0
 rw [hk,mF] at hk0
 cases hk0
 have hn:n<cs.length:=by simpa using hn0
 have si:gp C D all (nx+stride*i) ⟨d,.ext (.t k) n,none⟩ S M:=ext_side.2 ⟨cs,hk,hn⟩
 refine ⟨_,hoi,si,⟨_,(qJ si).2 ⟨cs,hk,hn,rfl⟩⟩,fun e1 r1=>⟨fun q hq a b o' ho' hs=>?_,?_⟩⟩
 ·rw [(mX hxx).1] at hs;cases hs
 ·obtain ⟨cs1,hk1,_,rfl⟩:=(qJ si).1 r1
  rw [hk] at hk1;cases hk1
  have lj:∀t∈looks all oj,S t=kG ⟨d,.ext (.t k) n,none⟩ (cs.getD n .dead,[]) S t:=fun t ht=>by
   rw [lY,if_neg (fun e=>ap1 t e ht)];rfl
  have aj:oj.op.touch=false\/∀x∈jb oj S,M x=qL (cs.getD n .dead,[]) M x:=.inr fun _ _=>rfl
  have ej:=fun e=>oq (D:=D) (fr:=nx+stride*j) (e:=e) lj aj
  refine ⟨oj,hoj,by rw [<- ng lj aj];exact sj,⟨ej0,by rw [<- ej];exact rj0⟩,fun e2 r2=>⟨?_,?_⟩⟩
  ·intro q hq a b o' ho' hs
   rcases List.mem_cons.1 hq with rfl|hq
   ·simp only at ho'
    rw [hoi] at ho';cases ho'
    rw [(mX hxx).2] at hs;cases hs
   ·have:=(hj e2 (by rw [ej];exact r2)).1 q hq a b o' ho' hs
    rw [jS lj,jX lj] at this
    exact this
  ·obtain ⟨_,oi',hoi',si2,_,hi⟩:=hj e2 (by rw [ej];exact r2)
   rw [hoi] at hoi';cases hoi'
   have hk3:kG oj e2 S k=.tup (cs.map (iK e2.2)):=by rw [hk2,hk,mF]
   have hd:=(hi _ ((qJ si2).2 ⟨_,hk3,by simpa using hn,rfl⟩)).2
   have eS:kG oj e2 (kG ⟨d,.ext (.t k) n,none⟩ (cs.getD n .dead,[]) S)=kG ⟨d,.ext (.t k) n,none⟩ ((cs.map (iK e2.2)).getD n .dead,[]) (kG oj e2 S):=by
    funext t
    simp only [lY]
    have hg:(cs.map (iK e2.2)).getD n .dead=iK e2.2 (cs.getD n .dead):=by
     simp only [List.getD_eq_getElem?_getD,List.getElem?_map,List.getElem?_eq_getElem hn,Option.map_some,Option.getD_some]
    by_cases h1:d=some t
    ·have:¬ oj.dst=some t:=ap2 t h1
     simp only [h1,this,if_true,if_false,hg,iK]
    ·simp only [h1,if_false,iK]
   rw [<- eS] at hd
   refine FW hd fun q hq=>?_
   simp only [List.mem_cons] at hq
   rcases hq with rfl|rfl|hq
   ·rw [<- jS lj,<- jX lj];exact .inl (List.mem_cons_of_mem _ (List.mem_cons_self ..))
   ·exact .inr ⟨_,hoi,hxx⟩
   ·exact .inl (List.mem_cons_of_mem _ (List.mem_cons_of_mem _ hq))
theorem Nv {X:Nat->Prop} {i j:Nat} {l:List Nat} {log:lI} {S M:Lk} {oi oj:aS} (hij:i≠j) (hoi:all[i]?=some oi) (hoj:all[j]?=some oj) (hp:wV all oi oj=true) (hli:lC oi=true) (hlj:lC oj=true)
  (hb1:oU masks i j=false) (hb2:oU masks j i=false) (hI:Inv nx X S M) (hXi:¬ X i) (hXj:¬ X j) (h:dr C D all masks nx K (i::j::l) log S M):dr C D all masks nx K (j::i::l) log S M:=by
 simp only [wV,Bool.and_eq_true,Bool.or_eq_true,Bool.not_eq_true'] at hp
 obtain ⟨hap,(hx|hx)|⟨hki,hkj⟩⟩:=hp
 ·exact AQ hoi hoj hx hap h
 ·exact zV hoj hoi hx (BF hap) h
 obtain ⟨oi',hoi',si,⟨ei0,ri0⟩,hi⟩:=h
 rw [hoi] at hoi';cases hoi'
 obtain ⟨ap1,ap2,ap3⟩:=ny hap
 have inI:∀x∈jb oi S,oP nx X x:=fun x hx=>innL_iff.1 (sU hI hli) x hx
 have inJ:∀x∈jb oj S,oP nx X x:=fun x hx=>innL_iff.1 (sU hI hlj) x hx
 have wt:∀o:aS,o.op.wrt=true->o.op.touch=true:=fun o=>by cases o.op<;>simp [HOp.wrt,HOp.touch]
 have lj:∀ei,iI D all (nx+stride*i) oi S M ei->∀t∈looks all oj,S t=kG oi ei S t:=fun ei re t ht=>by
  obtain ⟨_,_,_,f4⟩:=mQ hI hli si re
  unfold kG
  rw [if_neg (fun e=>ap1 t e ht),jL (f4 hki)]
 have aj:∀ei,iI D all (nx+stride*i) oi S M ei->oj.op.touch=false\/∀c∈oG oj S,vI c M (qL ei M):=fun ei re=>by
  obtain ⟨_,_,f3,f4⟩:=mQ hI hli si re
  obtain ⟨_,oj',hoj',sj,⟨ej0,rj0⟩,hj⟩:=hi ei re
  rw [hoj] at hoj';cases hoj'
  cases htj:oj.op.touch with
  | false=>exact .inl rfl
  | true =>
   right
   intro c hc
   have hx:=pX hc
   by_cases hxt:c / 2∈iQ ei.2
   ·rcases f3 _ hxt with hr|⟨hw,_⟩
    ·exact absurd (nC (inJ _ hx) hr) hXi
    ·have hck:=((hj ej0 rj0).1 _ (List.mem_cons_self ..) hb1 hb2 oi hoi (by simp [tK,hw,htj])).2
     by_cases hcw:c∈rZ oi S ei.2
     ·exact absurd (by rw [<- jS (lj ei re)];exact hc) (hck c hcw)
     ·have hodd:c % 2=1:=by
       rcases Nat.mod_two_eq_zero_or_one c with h0|h0
       ·have:=xE (o:=oi) (S:=S) hxt
        rw [show 2*(c / 2)=c by omega] at this
        exact absurd this hcw
       ·exact h0
      have hd:=EX (o:=oi) (S:=S) hxt (by rw [show 2*(c / 2)+1=c by omega];exact hcw)
      unfold vI
      rw [if_neg (by omega)]
      exact (AA si re hd (fun e=>hXi (nC (inJ _ hx) (by rw [e];unfold uj stride;omega)))).symm
   ·exact F8 (lh hxt).symm
 obtain ⟨_,oj',hoj',sj,⟨ej0,rj0⟩,hj0⟩:=hi ei0 ri0
 rw [hoj] at hoj';cases hoj'
 have ej:∀ei,iI D all (nx+stride*i) oi S M ei->∀e,iI D all (nx+stride*j) oj S M e=iI D all (nx+stride*j) oj (kG oi ei S) (qL ei M) e:=fun ei re e=>qw (lj ei re) (aj ei re)
 have sj':gp C D all (nx+stride*j) oj S M:=by rw [sF (lj ei0 ri0) (aj ei0 ri0)];exact sj
 refine ⟨oj,hoj,sj',⟨ej0,by rw [ej ei0 ri0];exact rj0⟩,fun e2 r2=>⟨?_,?_⟩⟩
 ·intro q hq a b o' ho' hs
  have:=(hj0 e2 (by rw [<- ej ei0 ri0];exact r2)).1 q (List.mem_cons_of_mem _ hq) a b o' ho' hs
  rw [<- jS (lj ei0 ri0),<- jX (lj ei0 ri0)] at this
  exact this
 ·obtain ⟨_,_,g3,g4⟩:=mQ hI hlj sj' r2
  have li:∀t∈looks all oi,S t=kG oj e2 S t:=fun t ht=>by
   unfold kG
   rw [if_neg (fun e=>ap3 t e ht),jL (g4 hkj)]
  have ai:oi.op.touch=false\/∀c∈oG oi S,vI c M (qL e2 M):=by
   cases hti:oi.op.touch with
   | false=>exact .inl rfl
   | true =>
    right
    intro c hc
    have hx:=pX hc
    by_cases hxt:c / 2∈iQ e2.2
    ·rcases g3 _ hxt with hr|⟨hw,_⟩
     ·exact absurd (nC (inI _ hx) hr) hXj
     ·have hck:=((hj0 e2 (by rw [<- ej ei0 ri0];exact r2)).1 _ (List.mem_cons_self ..) hb1 hb2 oi hoi (by simp [tK,hw,hti])).1
      rw [<- jX (lj ei0 ri0)] at hck
      by_cases hcw:c∈rZ oj S e2.2
      ·exact absurd hc (hck c hcw)
      ·have hodd:c % 2=1:=by
        rcases Nat.mod_two_eq_zero_or_one c with h0|h0
        ·have:=xE (o:=oj) (S:=S) hxt
         rw [show 2*(c / 2)=c by omega] at this
         exact absurd this hcw
        ·exact h0
       have hd:=EX (o:=oj) (S:=S) hxt (by rw [show 2*(c / 2)+1=c by omega];exact hcw)
       unfold vI
       rw [if_neg (by omega)]
       exact (AA sj' r2 hd (fun e=>hXj (nC (inI _ hx) (by rw [e];unfold uj stride;omega)))).symm
    ·exact F8 (lh hxt).symm
  refine ⟨oi,hoi,by rw [<- sF li ai];exact si,⟨ei0,by rw [<- qw li ai];exact ri0⟩,fun e1 r1=>?_⟩
  rw [<- qw li ai] at r1
  obtain ⟨c1,oj',hoj',_,_,hj⟩:=hi e1 r1
  rw [hoj] at hoj';cases hoj'
  obtain ⟨d1,d2⟩:=hj e2 (by rw [<- ej e1 r1];exact r2)
  obtain ⟨_,_,f3,f4⟩:=mQ hI hli si r1
  have eoi:=jS li
  have eoj:=jS (lj e1 r1)
  have ewi:=jX li e1.2
  have ewj:=jX (lj e1 r1) e2.2
  refine ⟨?_,?_⟩
  ·intro q hq a b o' ho' hs
   rcases List.mem_cons.1 hq with rfl|hq
   ·simp only at ho'
    rw [hoj] at ho';cases ho'
    have:=d1 _ (List.mem_cons_self ..) hb1 hb2 oi hoi (by rw [Io];exact hs)
    simp only [<- eoj,<- ewj] at this
    simp only [<- eoi,<- ewi]
    exact ⟨this.2,this.1⟩
   ·have:=c1 q hq a b o' ho' hs
    rw [eoi,ewi] at this
    exact this
  ·have eS:kG oj e2 (kG oi e1 S)=kG oi e1 (kG oj e2 S):=by
    funext t
    unfold kG
    rw [jL (f4 hki),jL (g4 hkj),jL (g4 hkj),jL (f4 hki)]
    by_cases h1:oi.dst=some t
    ·have:¬ oj.dst=some t:=ap2 t h1
     simp [h1,this]
    ·simp [h1]
   have eM:qL e2 (qL e1 M)=qL e1 (qL e2 M):=by
    funext x
    unfold qL
    by_cases h1:x∈iQ e1.2
    ·have h2:x ∉ iQ e2.2:=fun h2=>by
      rcases f3 x h1 with a|⟨w1,a⟩<;>rcases g3 x h2 with b|⟨w2,b⟩
      ·exact hij (EU a b)
      ·exact hXi (nC (inJ x b) a)
      ·exact hXj (nC (inI x a) b)
      ·have:=(d1 _ (List.mem_cons_self ..) hb1 hb2 oi hoi (by simp [tK,w1,wt oj w2])).1 (2*x) (xE h2)
       simp only [NV w1] at this
       exact this (List.mem_map_of_mem a)
     rw [lh h2]
     exact uM (.inl h1)
    ·rw [lh h1]
     by_cases h2:x∈iQ e2.2
     ·exact uM (.inl h2)
     ·rw [lh h2,lh h1,lh h2]
   rw [<- eS,<- eM]
   refine QB d2 fun q hq=>?_
   simp only [<- eoi,<- eoj,<- ewi,<- ewj,List.mem_cons] at hq ⊢
   rcases hq with h|h|h
   ·exact .inr (.inl h)
   ·exact .inl h
   ·exact .inr (.inr h)
theorem Aj {j:Nat} {oj:aS} (hoj:all[j]?=some oj) (hlj:lC oj=true):∀ (l1 l2:List Nat) (X:Nat->Prop) (log:lI) (S M:Lk),Inv nx X S M->¬ X j->(∀i∈l1,i≠j/\¬ X i/\∃oi,all[i]?=some oi/\lC oi=true/\wV all oi oj=true/\oU masks i j=false/\oU masks j i=false)->l1.Nodup ->
  dr C D all masks nx K (l1++j::l2) log S M->dr C D all masks nx K (j::(l1++l2)) log S M:=by
 intro l1
 induction l1 with
 | nil=>intro l2 X log S M _ _ _ _ h;exact h
 | cons i l1 ih =>
  intro l2 X log S M hI hXj hl hnd h
  obtain ⟨hij,hXi,oi,hoi,hli,hp,hb1,hb2⟩:=hl i (by simp)
  refine Nv hij hoi hoj hp hli hlj hb1 hb2 hI hXi hXj ?_
  obtain ⟨o,ho,hs,he,h⟩:=h
  rw [hoi] at ho;cases ho
  refine ⟨oi,hoi,hs,he,fun e re=>⟨(h e re).1,?_⟩⟩
  obtain ⟨f1,f2,_,_⟩:=mQ hI hli hs re
  rw [List.nodup_cons] at hnd
  refine ih l2 (fun k=>X k\/k=i) _ _ _ (hI.step f1 f2) (fun hx=>hx.elim hXj fun e=>hij e.symm) (fun k hk=>?_) hnd.2 (h e re).2
  obtain ⟨a,b,c⟩:=hl k (by simp [hk])
  exact ⟨a,fun hx=>hx.elim b fun e=>hnd.1 (e▸hk),c⟩
end
end Go.HL
end
section
namespace Go.HL
open Go.RowKit
section
variable {E:Fr} {N:Nat} {S M:Lk} {loc:Nat->Value} {fp:Nat->List Nat} {a:Act} {w:World}
theorem OW.inn {F:Nat->Prop} {h:Hp} {R:HV->Value->Prop} {vs rvs fs} (o:OW F h R vs rvs fs) {p:Nat->Prop} (hp:∀v rv id,R v rv->fH v=some id->p id):innL p vs:=by
 induction o with
 | nil=>simp
 | @leaf R v rv r rr fs a b c d e f g _ ih =>
  have ih':=ih hp
  cases v<;>simp [gB] at a b c d e f
  ·simp only [bf,zD];exact ⟨hp _ _ _ g rfl,ih'⟩
  ·simp only [bf,sH];exact ⟨hp _ _ _ g rfl,ih'⟩
  ·simpa using ih'
  ·simp only [bf,sK];exact ⟨hp _ _ _ g rfl,ih'⟩
  ·exact absurd rfl (c _ _ _ _ rfl rfl rfl)
 | int _ ih=>simpa using ih hp
 | bool _ ih=>simpa using ih hp
 | str _ ih=>simpa using ih hp
 | nils _ ih=>simpa using ih hp
 | nilp _ ih=>simpa using ih hp
 | nilf _ ih=>simpa using ih hp
 | dead _ ih=>simpa using ih hp
 | sl0 _ ih=>simpa using ih hp
 | sl a b c d _ _ ih1 ih2=>simp only [bf,KO];exact ⟨ih1 fun _ _ _ h=>h.elim,ih2 hp⟩
 | osl0 _ ih=>simpa using ih hp
 | osl a b c d e f _ _ ih1 ih2=>simp only [bf,qG];exact ⟨ih1 fun _ _ _ h=>h.elim,ih2 hp⟩
 | ptr a b c _ _ ih1 ih2=>simp only [bf,vK];exact ⟨ih1 fun _ _ _ h=>h.elim,ih2 hp⟩
 | optr a _ _ ih1 ih2=>simp only [bf,AB];exact ⟨ih1 fun _ _ _ h=>h.elim,ih2 hp⟩
 | nilm _ ih=>simpa using ih hp
 | rmap a b c _ _ ih1 ih2=>simp only [bf,wP];exact ⟨ih1 fun _ _ _ h=>h.elim,ih2 hp⟩
 | omap a b _ _ ih1 ih2=>simp only [bf,nJ];exact ⟨ih1 fun _ _ _ h=>h.elim,ih2 hp⟩
 | oitr _ _ ih=>simpa using ih hp
 | agg _ _ ih1 ih2=>simp only [bf,ou];exact ⟨ih1 hp,ih2 hp⟩
 | tup _ _ ih1 ih2=>simp only [bf,tX];exact ⟨ih1 hp,ih2 hp⟩
 | fn _ _ ih1 ih2=>simp only [bf,wL];exact ⟨ih1 hp,ih2 hp⟩
theorem OW.rn {F:Nat->Prop} {h:Hp} {R R':HV->Value->Prop} {vs rvs fs} (g:Nat->Nat) (o:OW F h R vs rvs fs) (hfs:fs=[]) (hl:∀v rv,R v rv->∃id,fH v=some id) (hr:∀v rv,R v rv->R' (v.rn g) rv):OW F h R' (NC g vs) rvs []:=by
 induction o with
 | nil=>exact .nil
 | @leaf R v rv r rr fs a b c d e f gg _ ih =>
  have ih':=ih hfs hl hr
  obtain ⟨id,hid⟩:=hl _ _ gg
  have h1:=hr _ _ gg
  have:(fH (v.rn g)).isSome=true:=by cases v<;>simp [fH] at hid<;>simp [HV.rn,fH]
  exact (dN this h1).cons1 ih'
 | int _ ih=>exact .int (ih hfs hl hr)
 | bool _ ih=>exact .bool (ih hfs hl hr)
 | str _ ih=>exact .str (ih hfs hl hr)
 | nils _ ih=>exact .nils (ih hfs hl hr)
 | nilp _ ih=>exact .nilp (ih hfs hl hr)
 | nilf _ ih=>exact .nilf (ih hfs hl hr)
 | dead _ ih=>exact .dead (ih hfs hl hr)
 | sl0 _ ih=>exact .sl0 (ih hfs hl hr)
 | sl a b c d e _ _ ih=>exact .sl a b c d e (ih hfs hl hr)
 | osl0 _ ih=>exact .osl0 (ih hfs hl hr)
 | osl=>simp at hfs
 | ptr a b c d _ _ ih=>exact .ptr a b c d (ih hfs hl hr)
 | optr=>simp at hfs
 | nilm _ ih=>exact .nilm (ih hfs hl hr)
 | rmap a b c d _ _ ih=>exact .rmap a b c d (ih hfs hl hr)
 | omap=>simp at hfs
 | oitr=>simp at hfs
 | agg _ _ ih1 ih2 =>
  obtain ⟨rfl,rfl⟩:_=[]/\_=[]:=by simpa using hfs
  exact .agg (ih1 rfl hl hr) (ih2 rfl hl hr)
 | tup _ _ ih1 ih2 =>
  obtain ⟨rfl,rfl⟩:_=[]/\_=[]:=by simpa using hfs
  exact .tup (ih1 rfl hl hr) (ih2 rfl hl hr)
 | fn _ _ ih1 ih2 =>
  obtain ⟨rfl,rfl⟩:_=[]/\_=[]:=by simpa using hfs
  exact .fn (ih1 rfl hl hr) (ih2 rfl hl hr)
theorem Rel.rename (hr:Rel E N S M loc fp a w) (g:Nat->Nat) (hg:∀x,g (g x)=x) (hN:∀x,x<N->g x<N):Rel E N (fun t=>(S t).rn g) (fun k=>M (g k)) (fun k=>loc (g k)) (fun k=>fp (g k)) a w:=by
 have inj:∀x y,g x=g y->x=y:=fun x y h=>by rw [<- hg x,<- hg y,h]
 have hfz:∀b,fG E fp w b->fG E (fun k=>fp (g k)) w b:=fun b ⟨h1,h2,h3⟩=>⟨h1,h2,fun k=>h3 (g k)⟩
 refine ⟨hr.below,hr.base,hr.size,fun id h=>(hr.tree (g id) h).stable (fun _ _=>rfl) (fun b hb=>⟨hfz b hb,rfl⟩) (fun _ _ h=>h),fun id h=>hr.gone (g id) h,fun id h=>hr.new (g id) ?_,fun id=>hr.nodup (g id),fun i j hij=>hr.apart (g i) (g j) (fun e=>hij (inj _ _ e)),fun id=>hr.fresh (g id),fun t=>?_,hr.defers⟩
 ·rcases Nat.lt_or_ge (g id) N with h'|h'
  ·have:=hN _ h'
   rw [hg] at this
   omega
  ·exact h'
 ·have:=(hr.slots t).rn (R':=RefR N (fun k=>M (g k)) (fun k=>loc (g k)) w.heap) g rfl (fun v rv h=>by obtain ⟨id,h1,_⟩:=h.isRef;exact ⟨id,h1⟩) (by
   intro v rv hv
   cases v<;>(try exact hv.elim)
   ·obtain ⟨a1,a2,a3,a4,a5⟩:=hv
    exact ⟨hN _ a1,a2,a3,by simp only [hg];exact a4,by simp only [hg];exact a5⟩
   ·obtain ⟨a1,a2,a3,a4⟩:=hv
    exact ⟨hN _ a1,a2,a3,by simp only [hg];exact a4⟩
   ·obtain ⟨a1,a2,a3,a4,a5⟩:=hv
    exact ⟨hN _ a1,a2,a3,by simp only [hg];exact a4,by simp only [hg];exact a5⟩)
  exact this.stable (by simp) (fun b hb=>⟨hfz b hb,rfl⟩) (fun _ _ h=>h)
def Ny (N0 f m x:Nat):Nat:=if N0<=x/\x<N0+m then x - N0+f else if f<=x/\x<f+m then x - f+N0 else x
theorem Ox {N0 f m:Nat} (h:f+m<=N0) (x:Nat):Ny N0 f m (Ny N0 f m x)=x:=by
 unfold Ny
 by_cases h1:N0<=x/\x<N0+m
 ·rw [if_pos h1,if_neg (by omega),if_pos (by omega)];omega
 ·rw [if_neg h1]
  by_cases h2:f<=x/\x<f+m
  ·rw [if_pos h2,if_pos (by omega)];omega
  ·rw [if_neg h2,if_neg h1,if_neg h2]
theorem SL {N0 f m:Nat} (h:f+m<=N0) (x:Nat) (hx:x<N0+m):Ny N0 f m x<N0+m:=by
 unfold Ny;split
 ·omega
 ·split<;>omega
theorem QM {g:Nat->Nat} (hg:∀x,g (g x)=x):∀ (us:List Upd) (A B:Lk),(∀k,A (g k)=B k)->∀k,Lk.upd A us (g k)=Lk.upd B (us.map (Af g)) k:=by
 intro us
 induction us with
 | nil=>intro A B h k;exact h k
 | cons u us ih =>
  intro A B h k
  cases u with
  | put id t =>
   simp only [List.map_cons,Af,Lk.upd]
   refine ih _ _ (fun k=>?_) k
   by_cases hk:g k=id
   ·have:k=g id:=by rw [<- hk,hg]
    rw [if_pos hk,if_pos this]
   ·have:¬ k=g id:=fun e=>hk (by rw [e,hg])
    rw [if_neg hk,if_neg this]
    exact h k
  | kill id n=>exact ih A B h k
theorem Nb {g:Nat->Nat} (hg:∀x,g (g x)=x) {us:List Upd} (hu:∀x∈iQ us,g x=x) (hM:∀k,g k≠k->M k=.dead) (k:Nat):Lk.upd M us (g k)=Lk.upd M us k:=by
 by_cases hk:g k=k
 ·rw [hk]
 ·rw [lh fun h=>hk (hu k h),lh fun h=>by have:=hu _ h;rw [hg] at this;exact hk this.symm,hM k hk,hM (g k) (by rw [hg];exact fun e=>hk e.symm)]
end
end Go.HL
end
section
namespace Go.HL
open Go.RowKit
theorem HT.deep {P:Program} {f:FuncId} {args:List HV} {K:HV->Prop} (h:HT P f args K):HT P f args fun r=>K r/\r.deep=[] :=
 ⟨h.1,fun w rargs F hF hargs=>(h.2 w rargs F hF hargs).mono fun _ _ ⟨rv,res,fs,h1,h2,h3,h4⟩=>⟨rv,res,fs,h1,⟨h2,by
  have:=h3.inn (p:=fun _=>False) (fun _ _ _ h=>h.elim)
  simp only [bf,Ap,and_true] at this
  exact List.eq_nil_iff_forall_not_mem.2 fun x hx=>this x hx⟩,h3,h4⟩⟩
theorem HT.imp {P:Program} {f:FuncId} {args:List HV} {K K':HV->Prop} (h:HT P f args K) (hk:∀r,K r->K' r):HT P f args K' :=
 ⟨h.1,fun w rargs F hF hargs=>(h.2 w rargs F hF hargs).mono fun _ _ ⟨rv,res,fs,h1,h2,h3⟩=>⟨rv,res,fs,h1,hk _ h2,h3⟩⟩
section
variable {P:Program} {E:Fr} {N:Nat} {S M:Lk} {loc:Nat->Value} {fp:Nat->List Nat} {a:Act} {w:World} {D:FuncId->List HV->HV->Prop} {nx i:Nat}
theorem SE {g:Nat->Nat} (hg:∀x,g (g x)=x) (hN:∀x,x<N->g x<N) {o:aS} {us0 uF:List Upd} {v:HV} (hr:Rel E N (fun t=>if o.dst=some t then v else qE S (us0++uF) t) (Lk.upd M (us0++uF)) loc fp a w)
  (hS:∀t,(S t).inn fun x=>g x=x) (hM:∀k,g k≠k->M k=.dead) (hu:∀x∈iQ us0,g x=x) (hF:∀u∈uF,∃id t,u=.put id t) :
  ∃N' loc' fp',Rel E N' (kG o (v.rn g,us0++uF.map (Af g)) S) (qL (v.rn g,us0++uF.map (Af g)) M) loc' fp' a w:=by
 have h:=hr.rename g hg hN
 refine ⟨N,fun k=>loc (g k),fun k=>fp (g k),?_⟩
 have e1:(fun t=>(if o.dst=some t then v else qE S (us0++uF) t).rn g)=kG o (v.rn g,us0++uF.map (Af g)) S:=by
  funext t
  unfold kG
  have hF':∀u∈uF.map (Af g),∃id t,u=.put id t:=fun u hu=>by
   obtain ⟨u',h1,rfl⟩:=List.mem_map.1 hu
   obtain ⟨id,t,rfl⟩:=hF u' h1
   exact ⟨_,_,rfl⟩
  by_cases hd:o.dst=some t
  ·simp only [hd,if_true]
  ·simp only [hd,if_false]
   rw [gV,gV,jL hF,jL hF']
   exact HV.rn_id g _ (EZ hS t)
 have e2:(fun k=>Lk.upd M (us0++uF) (g k))=qL (v.rn g,us0++uF.map (Af g)) M:=by
  funext k
  unfold qL
  rw [fV,fV]
  exact QM hg uF _ _ (fun k=>Nb hg hu hM k) k
 rw [<- e1,<- e2]
 exact h
theorem yZ {ops:Array Oper} {o:Oper} (ho:ops[i]?=some o) {X:Nat->Prop} (hr:Rel E N S M loc fp a w) (hI:Inv nx X S M) (hX:¬ X i) (hl:lC (bI P E.ok o)=true)
  (hs:gp (HT P) D (ops.toList.map (bI P E.ok)) (nx+stride*i) (bI P E.ok o) S M) {Kw:Act->World->Prop} {Q:Exit->Act->World->Prop}
  (hn:∀e a' w',iI D (ops.toList.map (bI P E.ok)) (nx+stride*i) (bI P E.ok o) S M e->(∃N' loc' fp',Rel E N' (kG (bI P E.ok o) e S) (qL e M) loc' fp' a' w')->Kw a' w'):wpOp P ops Q i Kw a w:=by
 have hgd:(bI P E.ok o).guard=o.guard:=rfl
 have hdst:(bI P E.ok o).dst=o.dst:=rfl
 have bool:∀ {d:Nat} {b:Bool},S d=.bool b->a.tmps[d]?=some (.bool b):=fun {d b} hb=>by
  have h1:=hr.slots d
  rw [hb] at h1
  have h3:=of_bool h1
  cases h4:a.tmps[d]? with
  | none=>rw [Array.getD_eq_getD_getElem?,h4] at h3;simp [undef] at h3
  | some v=>rw [Array.getD_eq_getD_getElem?,h4] at h3;simpa using h3
 have hw:∀b,gd (ops.toList.map (bI P E.ok)) (bI P E.ok o) S=some b->Region.wanted o (yielded ops a.tmps)=b:=by
  intro b hb
  unfold gd at hb
  rw [hgd] at hb
  unfold Region.wanted
  cases hg:o.guard with
  | none=>rw [hg] at hb;simpa using hb
  | some jw =>
   obtain ⟨j,want⟩:=jw
   rw [hg] at hb
   simp only [List.getElem?_map,Option.bind_map] at hb
   have hall:((ops.toList[j]?).bind ((fun x=>x.dst) ∘ bI P E.ok))=((ops[j]?).bind (·.dst)):=by rw [Array.getElem?_toList];rfl
   rw [hall] at hb
   cases hd:(ops[j]?).bind (·.dst) with
   | none=>rw [hd] at hb;simp at hb
   | some d =>
    rw [hd] at hb
    simp only [Option.map_some] at hb
    generalize hv:S d=v at hb
    cases v with
    | bool c =>
     simp only at hb
     have hy:yielded ops a.tmps j=some c:=by
      unfold yielded
      rw [hd]
      simp only [Option.bind_some,bool hv]
     simp only [hy]
     cases c<;>cases want<;>cases b<;>simp_all
    | tup cs =>
     cases cs with
     | cons _ _=>simp at hb
     | nil =>
      simp only [Option.some.injEq] at hb
      subst hb
      have hy:yielded ops a.tmps j=none:=by
       have h1:=hr.slots d
       rw [hv] at h1
       have h3:=Ci h1
       unfold yielded
       rw [hd]
       simp only [Option.bind_some]
       cases h4:a.tmps[d]? with
       | none=>rfl
       | some v=>rw [Array.getD_eq_getD_getElem?,h4] at h3;simp at h3;rw [h3];rfl
      simp [hy]
    | _=>simp at hb
 unfold gp at hs
 unfold wpOp
 rw [ho]
 simp only
 cases hgv:gd (ops.toList.map (bI P E.ok)) (bI P E.ok o) S with
 | none=>rw [hgv] at hs;exact hs.elim
 | some b =>
  rw [hgv] at hs
  rw [hw b hgv]
  cases b with
  | false =>
   simp only [Bool.false_eq_true,if_false]
   exact hn (.tup [],[]) _ _ (by unfold iI;rw [hgv]) ⟨N,loc,fp,hr.putU o.dst⟩
  | true =>
   simp only [if_true]
   simp only at hs
   left
   let N0:=max N (nx+stride*(i+1))
   let f:=nx+stride*i
   have hf0:f+stride<=N0:=by simp only [f,N0,stride];omega
   have hNN:N<=N0:=by simp only [N0];omega
   let g:=Ny N0 f stride
   have hg:∀x,g (g x)=x:=Ox hf0
   have hgN:∀x,x<N0+stride->g x<N0+stride:=SL hf0
   have gid:∀x,x<N0->¬ uj nx i x->g x=x:=fun x h1 h2=>by
    simp only [g,Ny]
    rw [if_neg (by omega),if_neg (fun h=>h2 ⟨h.1,by simp only [f,stride] at *;omega⟩)]
   have hS:∀t,(S t).inn fun x=>g x=x:=fun t x hx=>by
    have h1:=(hr.slots t).inn (p:=fun x=>x<N) (fun v rv id h hid=>by cases v<;>simp only [fH,Option.some.injEq,reduceCtorEq] at hid<;>subst hid<;>exact h.1)
    simp only [bf] at h1
    exact gid x (Nat.lt_of_lt_of_le (h1.1 x hx) hNN) fun hr'=>hX (nC (hI.slots t x hx) hr')
   have hM:∀k,g k≠k->M k=.dead:=fun k hk=>by
    rcases Nat.lt_or_ge k N with h|h
    ·by_cases h2:uj nx i k
     ·cases hd:M k with
      | dead=>rfl
      | _=>exact absurd (nC (hI.alive k (by rw [hd];simp)) h2) hX
     ·exact absurd (gid k (by omega) h2) hk
    ·exact hr.new k h
   have hMi:∀id,(M id).inn fun x=>g x=x:=fun id=>by
    by_cases h:M id=.dead
    ·rw [h];simp
    ·have:=(hr.tree id h).inn (p:=fun x=>g x=x) (fun _ _ _ h=>h.elim)
     simpa using this
   have hvals:innL (fun x=>g x=x) ((bI P E.ok o).op.map (dZ S)).vals:=by
    rw [HOp.vals_map]
    intro v hv
    obtain ⟨x,hx,rfl⟩:=List.mem_map.1 hv
    cases x with
    | t i=>exact hS i
    | c v =>
     simp only [lC,Bool.and_eq_true,List.all_eq_true] at hl
     have:=hl.2 _ hx
     simp only [List.isEmpty_iff] at this
     intro y hy
     simp only [dZ,this] at hy
     cases hy
   have hlits:innL (fun x=>g x=x) ((bI P E.ok o).op.map (dZ S)).lits:=by
    rw [HOp.lits_map,innL_iff]
    simp only [lC,Bool.and_eq_true,List.isEmpty_iff] at hl
    rw [hl.1]
    simp
   have hres:∀e,oI D M f e ((bI P E.ok o).op.map (dZ S))->iI D (ops.toList.map (bI P E.ok)) f (bI P E.ok o) S M e:=fun e h=>by unfold iI;rw [hgv];exact h
   by_cases hd:(o.dst.all fun d=>E.ok d)=true
   case neg =>
    have hop0:(bI P E.ok o).op=.bad:=by simp only [bI,hd];rfl
    rw [hop0] at hs
    exact hs.elim
   have hop0:(bI P E.ok o).op=bu P o:=by simp only [bI,hd,if_true]
   have hdt:∀t,o.dst=some t->E.ok t=true:=fun t ht=>by simpa [ht] using hd
   rw [hop0] at hs hvals hlits hres
   have done:∀ {us0 uF:List Upd} {v:HV} {rv:Value} {w':World} {N1:Nat},N1<=N0+stride->After E N1 S M (us0++uF) v rv a w'->(∀x∈iQ us0,g x=x)->(∀u∈uF,∃id t,u=.put id t)->oI D M f (v.rn g,us0++uF.map (Af g)) ((bu P o).map (dZ S))->Kw (a.put o.dst rv) w':=by
    intro us0 uF v rv w' N1 hN1 hA h1 h2 h3
    obtain ⟨loc',fp',h4,h5⟩:=hA
    have h6:=(h4.put o.dst hdt h5).up hN1
    exact hn _ _ _ (hres _ h3) (SE (o:=bI P E.ok o) hg hgN h6 hS hM h1 h2)
   have plain:(bu P o).isCall=false->(aH M f ((bu P o).map (dZ S))).2.2->(∀e,oI D M f e ((bu P o).map (dZ S)) <-> e=((aH M f ((bu P o).map (dZ S))).1,(aH M f ((bu P o).map (dZ S))).2.1))->o.wp P a w Kw Q:=by
    intro hnc hvc hce
    obtain ⟨us0,a1,a2,a3,a4⟩:=wu (L:=M) (D:=bz ((bu P o).map (dZ S)).vals) hvals (fun x hx=>hx) hlits hMi
    have ht:∀x∈iQ us0,g x=x:=by
     intro x hx
     clear a2 a3 a4
     induction us0 with
     | nil=>cases hx
     | cons u us ih =>
      have ih:=ih (fun u hu=>a1 u (by simp [hu]))
      cases u with
      | put id t =>
       simp only [iQ,List.mem_cons] at hx
       rcases hx with rfl|hx
       ·exact innL_iff.1 hvals _ (a1 (.put x t) (by simp)).1
       ·exact ih hx
      | kill=>exact ih hx
    have key:∃v uF,(aH M N0 ((bu P o).map (dZ S))).1=v/\(aH M N0 ((bu P o).map (dZ S))).2.1=us0++uF/\(aH M N0 ((bu P o).map (dZ S))).2.2/\(∀u∈uF,∃id t,u=.put id t)/\oI D M f (v.rn g,us0++uF.map (Af g)) ((bu P o).map (dZ S)):=by
     have gN:g N0=f:=by simp only [g,Ny,stride];rw [if_pos (by omega)];omega
     rcases a4 with ⟨v,q,h1,h2⟩|⟨mk,T,q,h0,h1,h2⟩
     ·rw [h2] at hvc
      refine ⟨v,[],by rw [h2],by rw [h2];simp,by rw [h2];exact hvc,by simp,(hce _).2 ?_⟩
      rw [h2,HV.rn_id g v h1];simp
     ·rw [h2] at hvc
      refine ⟨mk N0,[.put N0 T],by rw [h2],by rw [h2],by rw [h2];exact hvc,by simp,(hce _).2 ?_⟩
      rw [h2]
      rcases h0 with ⟨sz,n,rfl⟩|rfl|rfl
      ·simp [HV.rn,Af,gN]
      ·simp [HV.rn,Af,gN]
      ·simp [HV.rn,Af,gN]
    obtain ⟨v,uF,k1,k2,k3,k4,k5⟩:=key
    obtain ⟨rv,w',h1,h2⟩:=BK hr hNN o hnc k3
    rw [k1,k2] at h2
    have:=done (by unfold stride;omega) h2 ht k4 k5
    unfold Oper.wp
    rcases h1 with h1|⟨h1,rfl⟩
    ·rw [h1];exact this
    ·rw [h1];exact this
   have callgen:∀ (fn:FuncId) (vs:List HV) (rvs:List Value),(execOp a.eval o).run P w=(callFunc fn rvs.toArray).run P w->OW (fG E fp w) w.heap (RefR N M loc w.heap) vs rvs [] ->
     (HT P fn (fK fB M vs) (D fn (fK fB M vs))/\∀r,D fn (fK fB M vs) r->r.deep=[]->(bD vs || r.noRd)=true/\(unpack f r).2.2<=f+stride) ->
     (∀r,D fn (fK fB M vs) r->r.deep=[]->oI D M f ((unpack f r).1,(unpack f r).2.1) ((bu P o).map (dZ S)))->o.wp P a w Kw Q:=by
    intro fn vs rvs hrun hv hC hce
    unfold Oper.wp
    rw [hrun,nX hC.1.1,Oper.upon_enter]
    have hC':=(hC.1.deep).imp (K':=fun r=>(bD vs || r.noRd)=true/\(D fn (fK fB M vs) r/\r.deep=[])) fun r hr'=>⟨(hC.2 r hr'.1 hr'.2).1,hr'⟩
    refine (xG hr hNN hv hC').mono ?_
    rintro e w' ⟨rv,res,rfl,⟨hK,hdp⟩,_,hA⟩
    obtain ⟨u1,u2,u3,u4,u5⟩:=uq g res N0 f hdp
    have hb:=(hC.2 res hK hdp).2
    obtain ⟨e1,e2⟩:=u3 fun k h1 h2=>by simp only [g,Ny];rw [if_pos (by omega)]
    refine done (us0:=[]) (by omega) hA (by simp [iQ]) (fun u hu=>by obtain ⟨id,t,rfl,_⟩:=u5 u hu;exact ⟨_,_,rfl⟩) ?_
    have:=hce res hK hdp
    rw [e1,e2] at this
    exact this
   cases hop':bu P o with
   | call fn xs =>
    rw [hop'] at hs
    simp only [HOp.map] at hs
    obtain ⟨c,hc,hcal,rfl⟩:=uO hop'
    refine callgen fn (c.args.toList.map fun x=>dZ S (fM x)) (c.args.toList.map a.eval) ?_ (hr.vals _) (by rw [List.map_map] at hs;exact hs) (fun r h1 h2=>?_)
    ·have e1:(#[]:Array Value)++c.args.map a.eval++#[]=(c.args.toList.map a.eval).toArray:=by apply Array.ext';simp
     have e2:a.eval (.func fn)=.func (.func fn) #[] #[]:=rfl
     simp only [execOp,hc,resolve,hcal,e2,Deferred.ofValue,Sem.run_bind,Sem.run_pure,Result.andThen_ok,invoke,e1]
    ·rw [hop']
     exact ⟨r,by rw [List.map_map];exact h1,h2,rfl⟩
   | callv x xs =>
    rw [hop'] at hs
    simp only [HOp.map] at hs
    obtain ⟨c,t,hc,hcal,rfl,rfl⟩:=rP hop'
    have hval:=hr.val (.tmp t)
    simp only [fM] at hval
    rw [hop'] at callgen
    simp only [HOp.map] at callgen
    generalize dZ S (.t t)=fv at *
    cases fv<;>simp only [mM,aH] at hs<;>(first|exact hs.elim|skip)
    rename_i fn cap
    obtain ⟨rcap,hfe,hcap⟩:=BL hval
    have hv:=(hr.vals c.args.toList).append hcap
    simp only [List.append_nil] at hv
    refine callgen fn (c.args.toList.map (fun x=>dZ S (fM x))++cap) (c.args.toList.map a.eval++rcap) ?_ hv (by rw [List.map_map] at hs;exact hs) (fun r h1 h2=>?_)
    ·have e1:(#[]:Array Value)++c.args.map a.eval++rcap.toArray=(c.args.toList.map a.eval++rcap).toArray:=by apply Array.ext';simp
     simp only [execOp,hc,resolve,hcal,hfe,Deferred.ofValue,Sem.run_bind,Sem.run_pure,Result.andThen_ok,invoke,e1]
    ·exact ⟨r,by rw [List.map_map];exact h1,h2,rfl⟩
   | _ =>
    rw [hop'] at hs
    rw [hop'] at plain
    exact plain rfl hs (fun e=>Iff.rfl)
end
end Go.HL
end
section
namespace Go.HL
open Go.RowKit
def rq (ms:List Nat):List Edge->Nat
 | []=>0
 | e::r=>(if Region.binds .any e then 2 ^ e.on ||| ms.getD e.on 0 else 0) ||| rq ms r
def lW:List Oper->List Nat->List Nat
 | [],ms=>ms
 | o::r,ms=>lW r (ms++[rq ms o.after.toList])
def gz (ops:Array Oper):List Nat:=lW ops.toList []
theorem uU:∀ (r:List Oper) (ms:List Nat),∃t,lW r ms=ms++t:=by
 intro r
 induction r with
 | nil=>intro ms;exact ⟨[],by simp [lW]⟩
 | cons o r ih =>
  intro ms
  obtain ⟨t,h⟩:=ih (ms++[rq ms o.after.toList])
  exact ⟨rq ms o.after.toList::t,by rw [lW,h];simp⟩
theorem wH:∀ (r:List Oper) (ms:List Nat) (i:Nat) (o:Oper),r[i]?=some o->∃ms',(∃t,lW r ms=ms'++t)/\ms'.length=ms.length+i/\(lW r ms).getD (ms.length+i) 0=rq ms' o.after.toList:=by
 intro r
 induction r with
 | nil=>intro ms i o h;simp at h
 | cons q r ih =>
  intro ms i o h
  cases i with
  | zero =>
   simp at h
   subst h
   obtain ⟨t,ht⟩:=uU r (ms++[rq ms q.after.toList])
   refine ⟨ms,uU _ _,rfl,?_⟩
   rw [lW,ht]
   simp [List.getD]
  | succ i =>
   simp only [List.getElem?_cons_succ] at h
   obtain ⟨ms',h1,h2,h3⟩:=ih (ms++[rq ms q.after.toList]) i o h
   refine ⟨ms',h1,by rw [h2];simp;omega,?_⟩
   rw [lW,<- h3]
   congr 1
   simp;omega
theorem yN (ms:List Nat):∀ (l:List Edge) (k:Nat),(rq ms l).testBit k=true <-> ∃e∈l,Region.binds .any e=true/\(e.on=k\/(ms.getD e.on 0).testBit k=true):=by
 intro l
 induction l with
 | nil=>intro k;simp [rq]
 | cons e r ih =>
  intro k
  simp only [rq,Nat.testBit_or,Bool.or_eq_true,ih,List.mem_cons,exists_eq_or_imp]
  cases hb:Region.binds .any e with
  | false=>simp
  | true=>simp [Nat.testBit_or,Nat.testBit_two_pow]
theorem DL {ops:Array Oper} {i:Nat} {o:Oper} (ho:ops[i]?=some o) {e:Edge} (he:e∈o.after) (hb:Region.binds .any e=true):oU (gz ops) e.on i=true:=by
 obtain ⟨ms',_,_,h⟩:=wH ops.toList [] i o (by simpa using ho)
 unfold oU gz
 simp only [List.length_nil,Nat.zero_add] at h
 rw [h,yN]
 exact ⟨e,by simpa using he,hb,.inl rfl⟩
theorem jZ {ops:Array Oper} {i k:Nat} {o:Oper} (ho:ops[i]?=some o) (h:oU (gz ops) k i=true):∃e∈o.after,Region.binds .any e=true/\(e.on=k\/oU (gz ops) k e.on=true):=by
 obtain ⟨ms',⟨t,h1⟩,h2,h3⟩:=wH ops.toList [] i o (by simpa using ho)
 unfold oU gz at *
 simp only [List.length_nil,Nat.zero_add] at h3 h2
 rw [h3,yN] at h
 obtain ⟨e,he,hb,h⟩:=h
 refine ⟨e,by simpa using he,hb,h.imp id fun h=>?_⟩
 rw [h1]
 have:(ms'.getD e.on 0)=((ms'++t).getD e.on 0):=by
  rcases Nat.lt_or_ge e.on ms'.length with hl|hl
  ·simp [List.getD,List.getElem?_append_left hl]
  ·simp [List.getD,List.getElem?_eq_none hl] at h
 rw [<- this];exact h
section
variable {E:Fr} {N:Nat} {S M:Lk} {loc:Nat->Value} {fp:Nat->List Nat} {a:Act} {w:World}
theorem OW.lower {F:Nat->Prop} {h:Hp} {R R':HV->Value->Prop} {vs rvs fs} (o:OW F h R vs rvs fs) {p:Nat->Prop} (hfs:fs=[]) (hp:innL p vs) (hl:∀v rv,R v rv->∃id,fH v=some id) (hr:∀v rv id,R v rv->fH v=some id->p id->R' v rv):OW F h R' vs rvs []:=by
 induction o with
 | nil=>exact .nil
 | @leaf R v rv r rr fs a b c d e f gg _ ih =>
  simp only [bf] at hp
  have ih':=ih hfs hp.2 hl hr
  obtain ⟨id,hid⟩:=hl _ _ gg
  have:(fH v).isSome=true:=by rw [hid];rfl
  refine (dN this (hr _ _ id gg hid ?_)).cons1 ih'
  have:=hp.1
  cases v<;>simp [fH] at hid<;>subst hid<;>simpa using this
 | int _ ih=>simp only [bf] at hp;exact .int (ih hfs hp.2 hl hr)
 | bool _ ih=>simp only [bf] at hp;exact .bool (ih hfs hp.2 hl hr)
 | str _ ih=>simp only [bf] at hp;exact .str (ih hfs hp.2 hl hr)
 | nils _ ih=>simp only [bf] at hp;exact .nils (ih hfs hp.2 hl hr)
 | nilp _ ih=>simp only [bf] at hp;exact .nilp (ih hfs hp.2 hl hr)
 | nilf _ ih=>simp only [bf] at hp;exact .nilf (ih hfs hp.2 hl hr)
 | dead _ ih=>simp only [bf] at hp;exact .dead (ih hfs hp.2 hl hr)
 | sl0 _ ih=>simp only [bf] at hp;exact .sl0 (ih hfs hp.2 hl hr)
 | sl a b c d e _ _ ih=>simp only [bf] at hp;exact .sl a b c d e (ih hfs hp.2 hl hr)
 | osl0 _ ih=>simp only [bf] at hp;exact .osl0 (ih hfs hp.2 hl hr)
 | osl=>simp at hfs
 | ptr a b c d _ _ ih=>simp only [bf] at hp;exact .ptr a b c d (ih hfs hp.2 hl hr)
 | optr=>simp at hfs
 | nilm _ ih=>simp only [bf] at hp;exact .nilm (ih hfs hp.2 hl hr)
 | rmap a b c d _ _ ih=>simp only [bf] at hp;exact .rmap a b c d (ih hfs hp.2 hl hr)
 | omap=>simp at hfs
 | oitr=>simp at hfs
 | agg _ _ ih1 ih2 =>
  simp only [bf,ou] at hp
  obtain ⟨rfl,rfl⟩:_=[]/\_=[]:=by simpa using hfs
  exact .agg (ih1 rfl hp.1 hl hr) (ih2 rfl hp.2 hl hr)
 | tup _ _ ih1 ih2 =>
  simp only [bf,tX] at hp
  obtain ⟨rfl,rfl⟩:_=[]/\_=[]:=by simpa using hfs
  exact .tup (ih1 rfl hp.1 hl hr) (ih2 rfl hp.2 hl hr)
 | fn _ _ ih1 ih2 =>
  simp only [bf,wL] at hp
  obtain ⟨rfl,rfl⟩:_=[]/\_=[]:=by simpa using hfs
  exact .fn (ih1 rfl hp.1 hl hr) (ih2 rfl hp.2 hl hr)
theorem Rel.lower (hr:Rel E N S M loc fp a w) {N':Nat} (hS:∀t,(S t).inn (·<N')) (hM:∀id,M id≠.dead->id<N'):Rel E N' S M loc fp a w :=
 ⟨hr.below,hr.base,hr.size,hr.tree,hr.gone,fun id h=>by
  cases hd:M id with
  | dead=>rfl
  | _=>have:=hM id (by rw [hd];simp);omega,hr.nodup,hr.apart,hr.fresh,fun t=>(hr.slots t).lower (p:=(·<N')) rfl (by simpa using hS t) (fun v rv h=>by obtain ⟨id,h1,_⟩:=h.isRef;exact ⟨id,h1⟩) (fun v rv id h hid hp=>by
   cases v<;>simp only [fH,Option.some.injEq,reduceCtorEq] at hid<;>subst hid
   ·exact ⟨hp,h.2⟩
   ·exact ⟨hp,h.2⟩
   ·exact ⟨hp,h.2⟩),hr.defers⟩
theorem Rel.drew (hr:Rel E N S M loc fp a w) (n:Nat):Rel E N S M loc fp a { w with drawn:=n }:=by
 have hb:=hr.below
 exact ⟨⟨hb.os,hb.tape,hb.output,hb.size,hb.block⟩,hr.base,hr.size,hr.tree,hr.gone,hr.new,hr.nodup,hr.apart,hr.fresh,hr.slots,hr.defers⟩
theorem Rel.inv (hr:Rel E N S M loc fp a w):Inv N (fun _=>False) S M:=by
 refine ⟨fun t x hx=>.inl ?_,fun id x hx=>?_,fun id hid=>.inl ?_⟩
 ·have h1:=(hr.slots t).inn (p:=fun x=>x<N) (fun v rv id h hid=>by cases v<;>simp only [fH,Option.some.injEq,reduceCtorEq] at hid<;>subst hid<;>exact h.1)
  simp only [bf] at h1
  exact h1.1 x hx
 ·by_cases h:M id=.dead
  ·rw [h] at hx;cases hx
  ·have:=(hr.tree id h).inn (p:=fun _=>False) (fun _ _ _ h=>h.elim)
   simp only [bf] at this
   exact (this.1 x hx).elim
 ·rcases Nat.lt_or_ge id N with h|h
  ·exact h
  ·exact absurd (hr.new id h) hid
end
section
variable {P:Program} {E:Fr} {ops:Array Oper} {D:FuncId->List HV->HV->Prop} {nx:Nat} {K:Lk->Lk->Prop} {Q:Exit->Act->World->Prop}
theorem jG {masks:List Nat} {all:List aS} (h:lL masks all=true) {i:Nat} {o:aS} (ho:all[i]?=some o):masks.getD i 0<2 ^ i/\lC o=true/\∀k,k<i->∀q,all[k]?=some q->oU masks k i=false->wV all q o=true:=by
 have hlt:=(List.getElem?_eq_some_iff.1 ho).1
 simp only [lL,List.all_eq_true,List.mem_range] at h
 have:=h i hlt
 rw [ho] at this
 simp only [JW,Bool.and_eq_true,decide_eq_true_eq,List.all_eq_true,List.mem_range,Bool.or_eq_true] at this
 refine ⟨this.1.1,this.1.2,fun k hk q hq hb=>?_⟩
 rcases this.2 k hk with h|h
 ·rw [hb] at h;cases h
 ·rw [hq] at h;exact h
theorem H9 {all:List aS} (hall:all=ops.toList.map (bI P E.ok)) (hst:lL (gz ops) all=true) (hQ:∀X S M N loc fp a w,Inv nx X S M->(∀k,X k->k<ops.size)->Rel E N S M loc fp a w->K S M->Q .normal a w) :
  ∀ (fuel:Nat) (listed:Array Bool) (rem:List Nat) (log:lI) (S M:Lk) (N:Nat) (loc:Nat->Value) (fp:Nat->List Nat) (a:Act) (w:World),listed.size=ops.size->rem=(List.range ops.size).filter (fun i=>listed.getD i true==false)->rem.length<=fuel ->
   (∀i o,ops[i]?=some o->listed.getD i false=true->∀e∈o.after,Region.binds .any e=true->listed.getD e.on false=true) ->
   dr (HT P) D all (gz ops) nx K rem log S M->Inv nx (fun k=>listed.getD k false=true) S M->Rel E N S M loc fp a w->wpAny P .any ops Q fuel listed a w:=by
 have atH:∀i o,ops[i]?=some o->all[i]?=some (bI P E.ok o):=fun i o h=>by rw [hall,List.getElem?_map,Array.getElem?_toList,h];rfl
 intro fuel
 induction fuel with
 | zero =>
  intro listed rem log S M N loc fp a w hsz hrem hfu hcl hdr hI hr
  have hnil:rem=[]:=List.eq_nil_of_length_eq_zero (by omega)
  subst hnil
  refine ⟨?_,hQ _ S M N loc fp a w hI (fun k hk=>?_) hr hdr⟩
  ·refine List.eq_nil_iff_forall_not_mem.2 fun i hi=>?_
   obtain ⟨h1,o,ho,_⟩:=mem_ready.1 hi
   have:i∈(List.range ops.size).filter (fun i=>listed.getD i true==false):=by
    rw [List.mem_filter,List.mem_range]
    exact ⟨(Array.getElem?_eq_some_iff.1 ho).1,by simpa using h1⟩
   rw [<- hrem] at this;cases this
  ·rcases Nat.lt_or_ge k listed.size with h|h
   ·omega
   ·simp [Array.getElem?_eq_none h] at hk
 | succ fuel ih =>
  intro listed rem log S M N loc fp a w hsz hrem hfu hcl hdr hI hr
  have mem:∀i,i∈rem <-> i<ops.size/\listed.getD i true=false:=fun i=>by rw [hrem,List.mem_filter,List.mem_range];simp
  have sorted:rem.Pairwise (·<·):=by rw [hrem];exact List.pairwise_lt_range.filter _
  have lst:∀i,i<ops.size->listed.getD i true≠false->listed.getD i false=true:=fun i hi h=>by
   have hi':i<listed.size:=by omega
   simp only [Array.getD_eq_getD_getElem?,Array.getElem?_eq_getElem hi',Option.getD_some] at h ⊢
   simpa using h
  have lst':∀i,listed.getD i false=true->listed.getD i true≠false:=fun i h=>by
   have hi':i<listed.size:=by
    rcases Nat.lt_or_ge i listed.size with h'|h'
    ·exact h'
    ·simp [Array.getElem?_eq_none h'] at h
   simp only [Array.getD_eq_getD_getElem?,Array.getElem?_eq_getElem hi',Option.getD_some] at h ⊢
   simp [h]
  have opAt:∀i,i<ops.size->∃o,ops[i]?=some o:=fun i hi=>⟨ops[i],Array.getElem?_eq_getElem hi⟩
  have onlt:∀i o e,ops[i]?=some o->e∈o.after->Region.binds .any e=true->e.on<i:=fun i o e ho he hb=>by
   have h1:=(jG hst (atH i o ho)).1
   have h2:=DL ho he hb
   unfold oU at h2
   rcases Nat.lt_or_ge e.on i with h|h
   ·exact h
   ·rw [Nat.testBit_lt_two_pow (Nat.lt_of_lt_of_le h1 (Nat.pow_le_pow_right (by omega) h))] at h2;cases h2
  have closed:∀i,∀k,oU (gz ops) k i=true->i<ops.size->listed.getD i false=true->listed.getD k false=true:=by
   intro i
   induction i using Nat.strongRecOn with
   | _ i ihi =>
    intro k hk hi hl
    obtain ⟨o,ho⟩:=opAt i hi
    obtain ⟨e,he,hb,h⟩:=jZ ho hk
    have hle:=hcl i o ho hl e he hb
    rcases h with rfl|h
    ·exact hle
    ·have:=onlt i o e ho he hb
     exact ihi e.on this k h (by omega) hle
  refine ⟨fun h0=>?_,fun i hi=>?_⟩
  ·cases hrm:rem with
   | nil =>
    rw [hrm] at hdr
    refine hQ _ S M N loc fp a w hI (fun k hk=>?_) hr hdr
    rcases Nat.lt_or_ge k listed.size with h|h
    ·omega
    ·simp [Array.getElem?_eq_none h] at hk
   | cons i r =>
    exfalso
    have him:i∈rem:=by rw [hrm];simp
    obtain ⟨hi,hun⟩:=(mem i).1 him
    obtain ⟨o,ho⟩:=opAt i hi
    have:i∈Region.ready .any ops listed:=mem_ready.2 ⟨hun,o,ho,fun e he hb=>by
     have h1:=onlt i o e ho he hb
     by_cases h2:listed.getD e.on true=false
     ·have h3:e.on∈rem:=(mem e.on).2 ⟨by omega,h2⟩
      rw [hrm] at h3 sorted
      rcases List.mem_cons.1 h3 with h4|h4
      ·omega
      ·have:=(List.pairwise_cons.1 sorted).1 e.on h4;omega
     ·exact lst e.on (by omega) h2⟩
    rw [h0] at this;cases this
  ·obtain ⟨hun,o,ho,haft⟩:=mem_ready.1 hi
   have hio:i<ops.size:=(Array.getElem?_eq_some_iff.1 ho).1
   have him:i∈rem:=(mem i).2 ⟨hio,hun⟩
   obtain ⟨l1,l2,hsplit⟩:=List.append_of_mem him
   have hnd:rem.Nodup:=sorted.imp fun h=>Nat.ne_of_lt h
   obtain ⟨hlt,hlit,hpair⟩:=jG hst (atH i o ho)
   have hXi:¬ listed.getD i false=true:=fun h=>lst' i h hun
   rw [hsplit] at hdr sorted hnd
   have hfr:=Aj (atH i o ho) hlit l1 l2 _ log S M hI hXi (fun k hk=>by
    have hkm:k∈rem:=by rw [hsplit];simp [hk]
    obtain ⟨hk1,hk2⟩:=(mem k).1 hkm
    have hki:k<i:=(List.pairwise_append.1 sorted).2.2 k hk i (by simp)
    obtain ⟨q,hq⟩:=opAt k hk1
    obtain ⟨hlt',hlit',_⟩:=jG hst (atH k q hq)
    have hXk:¬ listed.getD k false=true:=fun h=>lst' k h hk2
    have b1:oU (gz ops) k i=false:=by
     cases hb:oU (gz ops) k i with
     | false=>rfl
     | true =>
      exfalso
      obtain ⟨e,he,hbb,h⟩:=jZ ho hb
      have hle:=haft e he hbb
      rcases h with rfl|h
      ·exact hXk hle
      ·have:=onlt i o e ho he hbb
       exact hXk (closed e.on k h (by omega) hle)
    refine ⟨by omega,hXk,_,atH k q hq,hlit',hpair k hki _ (atH k q hq) b1,b1,?_⟩
    unfold oU
    exact Nat.testBit_lt_two_pow (Nat.lt_of_lt_of_le hlt' (Nat.pow_le_pow_right (by omega) (Nat.le_of_lt hki)))) (List.nodup_append.1 hnd).1 hdr
   obtain ⟨o',ho',hs,_,hnext⟩:=hfr
   rw [atH i o ho] at ho';cases ho'
   subst hall
   refine yZ ho hr hI hXi hlit hs fun e a' w' hres ⟨N',loc',fp',hr'⟩=>?_
   obtain ⟨f1,f2,_,_⟩:=mQ hI hlit hs hres
   have hI':=hI.step (o:=bI P E.ok o) f1 f2
   have hset:∀k,(listed.setIfInBounds i true).getD k false=true <-> (listed.getD k false=true\/k=i):=fun k=>by
    by_cases hk:k=i
    ·subst hk;simp [hsz,hio]
    ·rw [getD_set_ne false (fun h=>hk h.symm)];simp [hk]
   refine ih (listed.setIfInBounds i true) (l1++l2) _ _ _ N' loc' fp' a' w' (by simpa using hsz) ?_ ?_ ?_ (hnext e hres).2 ⟨fun t=>HV.inn_mono (hI'.slots t) fun x hx=>kH (fun k hk=>(hset k).2 hk) hx,fun id=>HV.inn_mono (hI'.trees id) fun x hx=>kH (fun k hk=>(hset k).2 hk) hx,fun id h=>kH (fun k hk=>(hset k).2 hk) (hI'.alive id h)⟩ hr'
   ·have e1:(List.range ops.size).filter (fun k=>(listed.setIfInBounds i true).getD k true==false)=((List.range ops.size).filter (fun k=>listed.getD k true==false)).filter (fun k=>k != i):=by
     rw [List.filter_filter]
     refine List.filter_congr fun k hk=>?_
     by_cases hki:k=i
     ·subst hki
      have:k<listed.size:=by omega
      simp [this]
     ·rw [getD_set_ne true (fun h=>hki h.symm)];simp [hki]
    rw [e1,<- hrem,hsplit]
    rw [List.nodup_append] at hnd
    obtain ⟨n1,n2,n3⟩:=hnd
    rw [List.nodup_cons] at n2
    rw [List.filter_append,List.filter_cons_of_neg (by simp),List.filter_eq_self.2,List.filter_eq_self.2]
    ·intro k hk;simp;exact fun e=>n2.1 (e▸hk)
    ·intro k hk;simp;exact fun e=>n3 k hk i (by simp) e
   ·rw [hsplit] at hfu;simp at hfu ⊢;omega
   ·intro k q hq hl e' he' hb'
    rcases (hset k).1 hl with h|rfl
    ·exact (hset _).2 (.inl (hcl k q hq h e' he' hb'))
    ·rw [ho] at hq;cases hq
     exact (hset _).2 (.inl (haft e' he' hb'))
theorem GK {all:List aS} (hall:all=ops.toList.map (bI P E.ok)) (hst:lL (gz ops) all=true) (n:Nat) (hn:n<=ops.size) (hlast:∀i,n<=i->i<ops.size->∀k,k<i->oU (gz ops) k i=true)
  (hQ:∀fuel (listed:Array Bool) X S M N loc fp a w,ops.size - n<=fuel->listed.size=ops.size->(∀k,k<n->listed.getD k false=true)->(∀k,n<=k->k<ops.size->listed.getD k true=false)->Inv nx X S M->(∀k,X k->k<n)->Rel E N S M loc fp a w->K S M->wpAny P .any ops Q fuel listed a w) :
  ∀ (fuel:Nat) (listed:Array Bool) (rem:List Nat) (log:lI) (S M:Lk) (N:Nat) (loc:Nat->Value) (fp:Nat->List Nat) (a:Act) (w:World),listed.size=ops.size->rem=(List.range n).filter (fun i=>listed.getD i true==false)->(∀k,n<=k->k<ops.size->listed.getD k true=false)->rem.length+(ops.size - n)<=fuel ->
   (∀i o,ops[i]?=some o->listed.getD i false=true->∀e∈o.after,Region.binds .any e=true->listed.getD e.on false=true) ->
   dr (HT P) D all (gz ops) nx K rem log S M->Inv nx (fun k=>listed.getD k false=true) S M->Rel E N S M loc fp a w->wpAny P .any ops Q fuel listed a w:=by
 have atH:∀i o,ops[i]?=some o->all[i]?=some (bI P E.ok o):=fun i o h=>by rw [hall,List.getElem?_map,Array.getElem?_toList,h];rfl
 intro fuel
 induction fuel with
 | zero =>
  intro listed rem log S M N loc fp a w hsz hrem hsuf hfu hcl hdr hI hr
  have hnil:rem=[]:=List.eq_nil_of_length_eq_zero (by omega)
  subst hnil
  have hall':∀k,k<n->listed.getD k false=true:=fun k hk=>by
   have hk':k<listed.size:=by omega
   have:¬ k∈(List.range n).filter (fun i=>listed.getD i true==false):=by rw [<- hrem];simp
   rw [List.mem_filter,List.mem_range] at this
   simp only [Array.getD_eq_getD_getElem?,Array.getElem?_eq_getElem hk',Option.getD_some] at this ⊢
   simpa [hk] using this
  refine hQ 0 listed _ S M N loc fp a w (by omega) hsz hall' hsuf hI (fun k hk=>?_) hr hdr
  rcases Nat.lt_or_ge k n with h|h
  ·exact h
  ·exfalso
   have hk':k<listed.size:=by
    rcases Nat.lt_or_ge k listed.size with h'|h'
    ·exact h'
    ·simp [Array.getElem?_eq_none h'] at hk
   have:=hsuf k h (by omega)
   simp only [Array.getD_eq_getD_getElem?,Array.getElem?_eq_getElem hk',Option.getD_some] at this hk
   rw [this] at hk;cases hk
 | succ fuel ih =>
  intro listed rem log S M N loc fp a w hsz hrem hsuf hfu hcl hdr hI hr
  have mem:∀i,i∈rem <-> i<n/\listed.getD i true=false:=fun i=>by rw [hrem,List.mem_filter,List.mem_range];simp
  have sorted:rem.Pairwise (·<·):=by rw [hrem];exact List.pairwise_lt_range.filter _
  have lst:∀i,i<ops.size->listed.getD i true≠false->listed.getD i false=true:=fun i hi h=>by
   have hi':i<listed.size:=by omega
   simp only [Array.getD_eq_getD_getElem?,Array.getElem?_eq_getElem hi',Option.getD_some] at h ⊢
   simpa using h
  have lst':∀i,listed.getD i false=true->listed.getD i true≠false:=fun i h=>by
   have hi':i<listed.size:=by
    rcases Nat.lt_or_ge i listed.size with h'|h'
    ·exact h'
    ·simp [Array.getElem?_eq_none h'] at h
   simp only [Array.getD_eq_getD_getElem?,Array.getElem?_eq_getElem hi',Option.getD_some] at h ⊢
   simp [h]
  have opAt:∀i,i<ops.size->∃o,ops[i]?=some o:=fun i hi=>⟨ops[i],Array.getElem?_eq_getElem hi⟩
  have onlt:∀i o e,ops[i]?=some o->e∈o.after->Region.binds .any e=true->e.on<i:=fun i o e ho he hb=>by
   have h1:=(jG hst (atH i o ho)).1
   have h2:=DL ho he hb
   unfold oU at h2
   rcases Nat.lt_or_ge e.on i with h|h
   ·exact h
   ·rw [Nat.testBit_lt_two_pow (Nat.lt_of_lt_of_le h1 (Nat.pow_le_pow_right (by omega) h))] at h2;cases h2
  have closed:∀i,∀k,oU (gz ops) k i=true->i<ops.size->listed.getD i false=true->listed.getD k false=true:=by
   intro i
   induction i using Nat.strongRecOn with
   | _ i ihi =>
    intro k hk hi hl
    obtain ⟨o,ho⟩:=opAt i hi
    obtain ⟨e,he,hb,h⟩:=jZ ho hk
    have hle:=hcl i o ho hl e he hb
    rcases h with rfl|h
    ·exact hle
    ·have:=onlt i o e ho he hb
     exact ihi e.on this k h (by omega) hle
  by_cases hrn:rem=[]
  ·subst hrn
   refine hQ (fuel+1) listed _ S M N loc fp a w (by simpa using hfu) hsz (fun k hk=>?_) hsuf hI (fun k hk=>?_) hr hdr
   ·exact lst k (by omega) fun h=>by have:=(mem k).2 ⟨hk,h⟩;cases this
   ·rcases Nat.lt_or_ge k n with h|h
    ·exact h
    ·exfalso
     have hk':k<listed.size:=by
      rcases Nat.lt_or_ge k listed.size with h'|h'
      ·exact h'
      ·simp [Array.getElem?_eq_none h'] at hk
     exact lst' k hk (hsuf k h (by omega))
  have hin:∀i,i∈Region.ready .any ops listed->i<n:=fun i hi=>by
   obtain ⟨hun,o,ho,haft⟩:=mem_ready.1 hi
   have hio:i<ops.size:=(Array.getElem?_eq_some_iff.1 ho).1
   rcases Nat.lt_or_ge i n with h|h
   ·exact h
   ·exfalso
    obtain ⟨k,hk⟩:=List.exists_mem_of_ne_nil rem hrn
    obtain ⟨hk1,hk2⟩:=(mem k).1 hk
    have hXk:¬ listed.getD k false=true:=fun h=>lst' k h hk2
    obtain ⟨e,he,hbb,h3⟩:=jZ ho (hlast i h hio k (by omega))
    have hle:=haft e he hbb
    rcases h3 with rfl|h3
    ·exact hXk hle
    ·have:=onlt i o e ho he hbb
     exact hXk (closed e.on k h3 (by omega) hle)
  refine ⟨fun h0=>?_,fun i hi=>?_⟩
  ·exfalso
   cases hrm:rem with
   | nil=>exact hrn hrm
   | cons i r =>
    have him:i∈rem:=by rw [hrm];simp
    obtain ⟨hi,hun⟩:=(mem i).1 him
    obtain ⟨o,ho⟩:=opAt i (by omega)
    have:i∈Region.ready .any ops listed:=mem_ready.2 ⟨hun,o,ho,fun e he hb=>by
     have h1:=onlt i o e ho he hb
     by_cases h2:listed.getD e.on true=false
     ·have h3:e.on∈rem:=(mem e.on).2 ⟨by omega,h2⟩
      rw [hrm] at h3 sorted
      rcases List.mem_cons.1 h3 with h4|h4
      ·omega
      ·have:=(List.pairwise_cons.1 sorted).1 e.on h4;omega
     ·exact lst e.on (by omega) h2⟩
    rw [h0] at this;cases this
  ·have hin':=hin i hi
   obtain ⟨hun,o,ho,haft⟩:=mem_ready.1 hi
   have hio:i<ops.size:=(Array.getElem?_eq_some_iff.1 ho).1
   have him:i∈rem:=(mem i).2 ⟨hin',hun⟩
   obtain ⟨l1,l2,hsplit⟩:=List.append_of_mem him
   have hnd:rem.Nodup:=sorted.imp fun h=>Nat.ne_of_lt h
   obtain ⟨hlt,hlit,hpair⟩:=jG hst (atH i o ho)
   have hXi:¬ listed.getD i false=true:=fun h=>lst' i h hun
   rw [hsplit] at hdr sorted hnd
   have hfr:=Aj (atH i o ho) hlit l1 l2 _ log S M hI hXi (fun k hk=>by
    have hkm:k∈rem:=by rw [hsplit];simp [hk]
    obtain ⟨hk1,hk2⟩:=(mem k).1 hkm
    have hki:k<i:=(List.pairwise_append.1 sorted).2.2 k hk i (by simp)
    obtain ⟨q,hq⟩:=opAt k (by omega)
    obtain ⟨hlt',hlit',_⟩:=jG hst (atH k q hq)
    have hXk:¬ listed.getD k false=true:=fun h=>lst' k h hk2
    have b1:oU (gz ops) k i=false:=by
     cases hb:oU (gz ops) k i with
     | false=>rfl
     | true =>
      exfalso
      obtain ⟨e,he,hbb,h⟩:=jZ ho hb
      have hle:=haft e he hbb
      rcases h with rfl|h
      ·exact hXk hle
      ·have:=onlt i o e ho he hbb
       exact hXk (closed e.on k h (by omega) hle)
    refine ⟨by omega,hXk,_,atH k q hq,hlit',hpair k hki _ (atH k q hq) b1,b1,?_⟩
    unfold oU
    exact Nat.testBit_lt_two_pow (Nat.lt_of_lt_of_le hlt' (Nat.pow_le_pow_right (by omega) (Nat.le_of_lt hki)))) (List.nodup_append.1 hnd).1 hdr
   obtain ⟨o',ho',hs,_,hnext⟩:=hfr
   rw [atH i o ho] at ho';cases ho'
   subst hall
   refine yZ ho hr hI hXi hlit hs fun e a' w' hres ⟨N',loc',fp',hr'⟩=>?_
   obtain ⟨f1,f2,_,_⟩:=mQ hI hlit hs hres
   have hI':=hI.step (o:=bI P E.ok o) f1 f2
   have hset:∀k,(listed.setIfInBounds i true).getD k false=true <-> (listed.getD k false=true\/k=i):=fun k=>by
    by_cases hk:k=i
    ·subst hk;simp [hsz,hio]
    ·rw [getD_set_ne false (fun h=>hk h.symm)];simp [hk]
   refine ih (listed.setIfInBounds i true) (l1++l2) _ _ _ N' loc' fp' a' w' (by simpa using hsz) ?_ ?_ ?_ ?_ (hnext e hres).2 ⟨fun t=>HV.inn_mono (hI'.slots t) fun x hx=>kH (fun k hk=>(hset k).2 hk) hx,fun id=>HV.inn_mono (hI'.trees id) fun x hx=>kH (fun k hk=>(hset k).2 hk) hx,fun id h=>kH (fun k hk=>(hset k).2 hk) (hI'.alive id h)⟩ hr'
   ·have e1:(List.range n).filter (fun k=>(listed.setIfInBounds i true).getD k true==false)=((List.range n).filter (fun k=>listed.getD k true==false)).filter (fun k=>k != i):=by
     rw [List.filter_filter]
     refine List.filter_congr fun k hk=>?_
     rw [List.mem_range] at hk
     by_cases hki:k=i
     ·subst hki
      have:k<listed.size:=by omega
      simp [this]
     ·rw [getD_set_ne true (fun h=>hki h.symm)];simp [hki]
    rw [e1,<- hrem,hsplit]
    rw [List.nodup_append] at hnd
    obtain ⟨n1,n2,n3⟩:=hnd
    rw [List.nodup_cons] at n2
    rw [List.filter_append,List.filter_cons_of_neg (by simp),List.filter_eq_self.2,List.filter_eq_self.2]
    ·intro k hk;simp;exact fun e=>n2.1 (e▸hk)
    ·intro k hk;simp;exact fun e=>n3 k hk i (by simp) e
   ·intro k hk1 hk2
    rw [getD_set_ne true (by omega)];exact hsuf k hk1 hk2
   ·rw [hsplit] at hfu;simp at hfu ⊢;omega
   ·intro k q hq hl e' he' hb'
    rcases (hset k).1 hl with h|rfl
    ·exact (hset _).2 (.inl (hcl k q hq h e' he' hb'))
    ·rw [ho] at hq;cases hq
     exact (hset _).2 (.inl (haft e' he' hb'))
end
end Go.HL
end
