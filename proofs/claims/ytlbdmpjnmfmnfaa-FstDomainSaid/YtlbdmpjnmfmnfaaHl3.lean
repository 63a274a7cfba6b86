import Derived.Test.YtlbdmpjnmfmnfaaHl2
import Derived.Orders
set_option linter.unusedSimpArgs false
set_option linter.unusedVariables false
section
namespace Go.HL
open Go.RowKit
mutual
def HV.deep:HV->List Nat
 | .ref i _ _ _ _=>[i]
 | .pref i _ _=>[i]
 | .sl _ cs=>aQ cs
 | .osl _ _ cs=>aQ cs
 | .ptr cs _=>aQ cs
 | .optr cs=>aQ cs
 | .agg cs=>aQ cs
 | .tup cs=>aQ cs
 | .fn _ cs=>aQ cs
 | .rmap _ _ cs=>aQ cs
 | .omap _ _ cs=>aQ cs
 | .mref i _=>[i]
 | _=>[]
def aQ:List HV->List Nat
 | []=>[]
 | v::r=>v.deep++aQ r
end
def HV.inn (p:Nat->Prop) (v:HV):Prop:=∀x∈v.deep,p x
def innL (p:Nat->Prop) (l:List HV):Prop:=∀v∈l,v.inn p
theorem mem_deepL {x:Nat} {l:List HV}:x∈aQ l <-> ∃v∈l,x∈v.deep:=by
 induction l with
 | nil=>simp [aQ]
 | cons v r ih=>simp [aQ,ih]
theorem innL_iff {p:Nat->Prop} {l:List HV}:innL p l <-> ∀x∈aQ l,p x:=by
 unfold innL HV.inn
 constructor
 ·intro h x hx
  obtain ⟨v,hv,hx⟩:=mem_deepL.1 hx
  exact h v hv x hx
 ·intro h v hv x hx
  exact h x (mem_deepL.2 ⟨v,hv,hx⟩)
section
variable {p:Nat->Prop}
@[simp] theorem kJ {k n}:(HV.int k n).inn p:=by simp [HV.inn,HV.deep]
@[simp] theorem oC {b}:(HV.bool b).inn p:=by simp [HV.inn,HV.deep]
@[simp] theorem YQ {b}:(HV.str b).inn p:=by simp [HV.inn,HV.deep]
@[simp] theorem adl:HV.nils.inn p:=by simp [HV.inn,HV.deep]
@[simp] theorem acl:HV.nilp.inn p:=by simp [HV.inn,HV.deep]
@[simp] theorem adP:HV.nilf.inn p:=by simp [HV.inn,HV.deep]
@[simp] theorem bQ:HV.dead.inn p:=by simp [HV.inn,HV.deep]
@[simp] theorem Kt {i q sz o n}:(HV.ref i q sz o n).inn p <-> p i:=by simp [HV.inn,HV.deep]
@[simp] theorem CB {i q o}:(HV.pref i q o).inn p <-> p i:=by simp [HV.inn,HV.deep]
@[simp] theorem XJ {n cs}:(HV.sl n cs).inn p <-> innL p cs:=by rw [innL_iff];rfl
@[simp] theorem Au {sz n cs}:(HV.osl sz n cs).inn p <-> innL p cs:=by rw [innL_iff];rfl
@[simp] theorem FM {n cs}:(HV.ptr cs n).inn p <-> innL p cs:=by rw [innL_iff];rfl
@[simp] theorem Oa {cs}:(HV.optr cs).inn p <-> innL p cs:=by rw [innL_iff];rfl
@[simp] theorem uY {cs}:(HV.agg cs).inn p <-> innL p cs:=by rw [innL_iff];rfl
@[simp] theorem zV {cs}:(HV.tup cs).inn p <-> innL p cs:=by rw [innL_iff];rfl
@[simp] theorem DF {f cs}:(HV.fn f cs).inn p <-> innL p cs:=by rw [innL_iff];rfl
@[simp] theorem acH:HV.nilm.inn p:=by simp [HV.inn,HV.deep]
@[simp] theorem adH {b s l c}:(HV.oitr b s l c).inn p:=by simp [HV.inn,HV.deep]
@[simp] theorem Dj {i q}:(HV.mref i q).inn p <-> p i:=by simp [HV.inn,HV.deep]
@[simp] theorem Gz {m ks cs}:(HV.rmap m ks cs).inn p <-> innL p cs:=by rw [innL_iff];rfl
@[simp] theorem vT {m ks cs}:(HV.omap m ks cs).inn p <-> innL p cs:=by rw [innL_iff];rfl
@[simp] theorem LM:innL p []:=by simp [innL]
@[simp] theorem aH {v l}:innL p (v::l) <-> v.inn p/\innL p l:=by simp [innL]
@[simp] theorem Ew {l l'}:innL p (l++l') <-> innL p l/\innL p l':=by
 simp only [innL,zl002]
 exact ⟨fun h=>⟨fun v hv=>h v (.inl hv),fun v hv=>h v (.inr hv)⟩,fun h v hv=>hv.elim (h.1 v) (h.2 v)⟩
theorem innL.take {l} (h:innL p l) (n:Nat):innL p (l.take n):=fun v hv=>h v (FW hv)
theorem innL.drop {l} (h:innL p l) (n:Nat):innL p (l.drop n):=fun v hv=>h v (Ou hv)
theorem innL.win {l} (h:innL p l) (a b:Nat):innL p (win l a b):=by
 unfold HL.win;split
 ·exact h
 ·exact (h.drop _).take _
theorem innL.getD {l} (h:innL p l) (n:Nat):(l.getD n .dead).inn p:=by
 rw [bf]
 cases hn:l[n]? with
 | none=>simp
 | some v=>exact h v (Oy hn)
theorem innL.set {l} (h:innL p l) (n:Nat) {v:HV} (hv:v.inn p):innL p (l.set n v):=fun u hu=>by
 rcases List.mem_or_eq_of_mem_set hu with hu|rfl
 ·exact h u hu
 ·exact hv
theorem oL {v:HV} (h:v.inn p) (q:List Nat):(ax v q).inn p:=by
 induction q generalizing v with
 | nil=>simpa [ax] using h
 | cons j q ih =>
  cases v<;>simp only [ax,bQ]
  ·exact ih (innL.getD (by simpa using h) j)
  ·exact ih (innL.getD (by simpa using h) j)
  ·exact ih (innL.getD (by simpa using h) j)
theorem CJ {x v:HV} (hx:x.inn p) (h:v.inn p) (q:List Nat):(dh x v q).inn p:=by
 induction q generalizing v with
 | nil=>simpa [dh] using hx
 | cons j q ih =>
  cases v<;>simp only [dh]<;>(first|exact h|skip)
  ·simp only [Au] at h ⊢
   exact h.set j (ih (h.getD j))
  ·simp only [Oa] at h ⊢
   exact h.set j (ih (h.getD j))
  ·simp only [vT] at h ⊢
   exact h.set j (ih (h.getD j))
theorem Gm {v:HV} (h:v.inn p):innL p (aW v):=by cases v<;>simp_all [aW]
theorem NC {v:HV} {cs:List HV} (h:v.inn p) (hc:innL p cs):(bW cs v).inn p:=by cases v<;>simp_all [bW]
theorem zi {cs l:List HV} (h:innL p cs) (hl:innL p l) (o:Nat):innL p (setFrom cs o l):=by
 induction l generalizing cs o with
 | nil=>simpa [setFrom] using h
 | cons v r ih =>
  simp only [aH] at hl
  exact ih (h.set o hl.1) hl.2 (o+1)
theorem Ad {v:HV} (h:v.inn p):innL p (cellsOf v):=by
 unfold cellsOf;split
 ·simpa using h
 ·simpa using h
theorem Nz {v:HV} {id j:Nat} {q:List Nat} (hi:p id) (h:v.inn p):(look id q j v).inn p:=by
 unfold look
 split<;>(try split)<;>first|exact bQ|exact h|simpa using hi
theorem MO {zs:List HV} {ps:List (Nat×Nat×HV)} (h:innL p zs) (hp:∀q∈ps,q.2.2.inn p):innL p (qI zs ps).1:=by
 induction ps generalizing zs with
 | nil=>exact h
 | cons q r ih =>
  obtain ⟨o,sz,v⟩:=q
  simp only [qI]
  exact ih (zi h (Ad (hp (o,sz,v) (by simp))) o) fun q hq=>hp q (by simp [hq])
def ZF (p:Nat->Prop):Upd->Prop
 | .put id t=>p id/\t.inn p
 | .kill ..=>True
def iE:List Upd->List Nat
 | []=>[]
 | .put id _::r=>id::iE r
 | .kill ..::r=>iE r
theorem EX (a b:List Upd):iE (a++b)=iE a++iE b:=by
 induction a with
 | nil=>rfl
 | cons u a ih=>cases u<;>simp [iE,ih]
theorem Zp {L:Lk} {us:List Upd} (h:∀id,(L id).inn p) (hu:∀u∈us,ZF p u) (id:Nat):(Lk.upd L us id).inn p:=by
 induction us generalizing L with
 | nil=>exact h id
 | cons u us ih =>
  cases u with
  | put i t =>
   refine ih (L:=fun j=>if j=i then t else L j) (fun j=>?_) fun u hu'=>hu u (by simp [hu'])
   split
   ·exact (hu (.put i t) (by simp)).2
   ·exact h j
  | kill i n=>exact ih h fun u hu'=>hu u (by simp [hu'])
theorem qi {L:Lk} {us:List Upd} {id:Nat} (h:id ∉ iE us):Lk.upd L us id=L id:=by
 induction us generalizing L with
 | nil=>rfl
 | cons u us ih =>
  cases u with
  | put i t =>
   simp only [iE,zl011,not_or] at h
   simp only [Lk.upd]
   rw [ih h.2,if_neg h.1]
  | kill i n=>exact ih h
theorem Be {L L':Lk} {us:List Upd} {id:Nat} (h:id∈iE us\/L id=L' id):Lk.upd L us id=Lk.upd L' us id:=by
 induction us generalizing L L' with
 | nil=>rcases h with h|h;cases h;exact h
 | cons u us ih =>
  cases u with
  | put i t =>
   simp only [Lk.upd]
   refine ih ?_
   simp only [iE,zl011] at h
   by_cases hi:id=i
   ·right;simp [hi]
   ·rcases h with (h|h)|h
    ·exact absurd h hi
    ·exact .inl h
    ·right;simp [hi,h]
  | kill i n=>exact ih h
end
def U9 (D:List Nat) (p:Nat->Prop):Upd->Prop
 | .put id t=>id∈D/\t.inn p
 | .kill ..=>True
section
variable {p:Nat->Prop} {L L':Lk} {D:List Nat}
theorem bH {v:HV} (hv:v.inn p) (hD:∀x∈v.deep,x∈D) (hL:∀id,(L id).inn p):(takeC L v).1.inn p/\(∀u∈(takeC L v).2.1,U9 D p u)/\∀u∈(takeC L v).2.1,∃id t,u=.put id t:=by
 unfold takeC
 split
 ·rename_i id _ off n
  have:=hL id
  split
  ·rename_i sz m cs h
   rw [h] at this
   exact ⟨this,by simp [U9];exact hD id (by simp [HV.deep]),by simp⟩
  ·simp
 ·rename_i id off
  have:=hL id
  split
  ·rename_i cs h
   rw [h] at this
   exact ⟨this,by simp [U9];exact hD id (by simp [HV.deep]),by simp⟩
  ·simp
 ·rename_i id
  have:=hL id
  split
  ·rename_i m ks cs h
   rw [h] at this
   exact ⟨this,by simp [U9];exact hD id (by simp [HV.deep]),by simp⟩
  ·simp
 all_goals first|exact ⟨hv,by simp,by simp⟩|simp
theorem cO {v:HV} (h:∀x∈v.deep,L x=L' x):takeC L v=takeC L' v:=by
 unfold takeC
 split<;>first|rfl|skip
 ·rename_i id _ off n;rw [h id (by simp [HV.deep])]
 ·rename_i id off;rw [h id (by simp [HV.deep])]
 ·rename_i id;rw [h id (by simp [HV.deep])]
theorem Cb (hL:∀id,(L id).inn p) {us:List Upd} (h:∀u∈us,U9 D p u) (id:Nat):(Lk.upd L us id).inn p:=by
 induction us generalizing L with
 | nil=>exact hL id
 | cons u us ih =>
  cases u with
  | put i t =>
   refine ih (L:=fun j=>if j=i then t else L j) (fun j=>?_) fun u hu'=>h u (by simp [hu'])
   split
   ·exact (h (.put i t) (by simp)).2
   ·exact hL j
  | kill i n=>exact ih hL fun u hu'=>h u (by simp [hu'])
theorem Hl {l:List HV}:∀ {L:Lk},innL p l->(∀x∈aQ l,x∈D)->(∀id,(L id).inn p)->innL p (fQ L l).1/\(∀u∈(fQ L l).2.1,U9 D p u)/\∀u∈(fQ L l).2.1,∃id t,u=.put id t:=by
 induction l with
 | nil=>intro L h hD hL;simp [fQ]
 | cons v r ih =>
  intro L h hD hL
  simp only [aH] at h
  simp only [aQ,zl002] at hD
  obtain ⟨a1,a2,a3⟩:=bH (L:=L) h.1 (fun x hx=>hD x (.inl hx)) hL
  obtain ⟨b1,b2,b3⟩:=ih (L:=Lk.upd L (takeC L v).2.1) h.2 (fun x hx=>hD x (.inr hx)) (Cb hL a2)
  simp only [fQ,aH,zl002]
  exact ⟨⟨a1,b1⟩,fun u hu=>hu.elim (a2 u) (b2 u),fun u hu=>hu.elim (a3 u) (b3 u)⟩
theorem yM {l:List HV}:∀ {L L':Lk},(∀x∈aQ l,L x=L' x)->fQ L l=fQ L' l:=by
 induction l with
 | nil=>intros;rfl
 | cons v r ih =>
  intro L L' h
  simp only [aQ,zl002] at h
  have e1:=cO (L:=L) (L':=L') fun x hx=>h x (.inl hx)
  have e2:=ih (L:=Lk.upd L (takeC L v).2.1) (L':=Lk.upd L' (takeC L v).2.1) fun x hx=>Be (.inr (h x (.inr hx)))
  simp only [fQ,<- e1,e2]
end
def HOp.vals {α:Type}:HOp α->List α
 | .mv _ x=>[x]|.pick c a b=>[c,a,b]|.bin _ x y=>[x,y]|.beq _ x y=>[x,y]|.aeq _ _ x y=>[x,y]|.un _ x=>[x]|.conv _ x=>[x]
 | .newv _ x=>[x]|.newz _=>[]|.bld _ ps=>ps.map (·.2.2)|.bsl _ _ xs=>xs|.load _ _ x=>[x]|.store _ _ x y=>[x,y]|.nilck x=>[x]
 | .mkfn _ xs=>xs|.mksl _ _ _ l=>[l]|.slc _ x lo hi=>x::(lo.toList++hi.toList)|.faddr _ x=>[x]|.fld _ _ _ x=>[x]|.iaddr _ x i=>[x,i]|.ext x _=>[x]
 | .len x=>[x]|.app _ _ _ s x=>[s,x]|.mm _ x y=>[x,y]|.cpy x y=>[x,y]|.slz _ x=>[x]|.isn _ x=>[x]
 | .mnil _ x=>[x]|.mkmap _=>[]|.mlook _ _ _ x k=>[x,k]|.mset _ x k v=>[x,k,v]|.mlen x=>[x]|.mrng x=>[x]|.mnxt x=>[x]|.ment x=>[x]|.tostr x=>[x]|.call _ xs=>xs|.callv x xs=>x::xs|.bi _ _ _ xs=>xs|.bad=>[]
def HOp.lits {α:Type}:HOp α->List HV
 | .newz zs=>zs|.bld zs _=>zs|.mksl _ _ z _=>z|.mlook _ _ z _ _=>[z]|_=>[]
def HOp.wrt {α:Type}:HOp α->Bool
 | .newv ..=>true|.bsl ..=>true|.store ..=>true|.app ..=>true|.cpy ..=>true|.mset ..=>true|_=>false
def HOp.touch {α:Type}:HOp α->Bool
 | .newv ..=>true|.bsl ..=>true|.store ..=>true|.app ..=>true|.cpy ..=>true|.load ..=>true|.mset ..=>true|.mlook ..=>true|.mlen _=>true|.mnil ..=>true|.tostr _=>true|.call ..=>true|.callv ..=>true|.bi ..=>true|_=>false
def HOp.killer {α:Type}:HOp α->Bool
 | .store f ..=>!f|.mset ..=>true|_=>false
def HOp.wrtO {α:Type} (own:FuncId->Bool):HOp α->Bool
 | .call f _=>own f
 | op=>op.wrt
theorem HOp.wrtO_map {α β:Type} (own:FuncId->Bool) (g:α->β) (o:HOp α):(o.map g).wrtO own=o.wrtO own:=by cases o<;>rfl
theorem HOp.wrtO_of {α:Type} (own:FuncId->Bool) {o:HOp α} (h:o.wrt=true):o.wrtO own=true:=by cases o<;>first|exact h|cases h
theorem HOp.wrtO_no {α:Type} (o:HOp α):o.wrtO (fun _=>false)=o.wrt:=by cases o<;>rfl
theorem HOp.vals_map {α β:Type} (g:α->β) (o:HOp α):(o.map g).vals=o.vals.map g:=by
 cases o<;>simp [HOp.vals,HOp.map]
 rename_i lo hi;cases lo<;>cases hi<;>simp
theorem HOp.lits_map {α β:Type} (g:α->β) (o:HOp α):(o.map g).lits=o.lits:=by cases o<;>rfl
theorem HOp.touch_map {α β:Type} (g:α->β) (o:HOp α):(o.map g).touch=o.touch:=by cases o<;>rfl
theorem HOp.killer_map {α β:Type} (g:α->β) (o:HOp α):(o.map g).killer=o.killer:=by cases o<;>rfl
def adZ (mk:Nat->HV):Prop:=(∃sz n,mk=fun fr=>.ref fr [] sz 0 n)\/(mk=fun fr=>.pref fr [] 0)\/mk=fun fr=>.mref fr []
section
variable {p:Nat->Prop} {L L':Lk} {D:List Nat}
def Shape (L:Lk) (p:Nat->Prop) (D:List Nat) (op:HOp HV):Prop :=
 ∃us0,(∀u∈us0,U9 D p u)/\(op.wrt=false->us0=[])/\(op.killer=false->∀u∈us0,∃id t,u=.put id t) /\
  ((∃v q,v.inn p/\∀fr,ah L fr op=(v,us0,q))\/(∃mk T q,adZ mk/\T.inn p/\∀fr,ah L fr op=(mk fr,us0++[.put fr T],q)))
theorem Shape.pure {op:HOp HV} (h:∀fr,ah L fr op=ah L 0 op) (h1:(ah L 0 op).2.1=[]) (h2:(ah L 0 op).1.inn p):Shape L p D op :=
 ⟨[],by simp,fun _=>rfl,by simp,.inl ⟨_,_,h2,fun fr=>by rw [h fr,<- h1]⟩⟩
theorem Shape.dead {op:HOp HV} {q:Prop} (h:∀fr,ah L fr op=(.dead,[],q)):Shape L p D op:=⟨[],by simp,fun _=>rfl,by simp,.inl ⟨_,_,bQ,h⟩⟩
theorem Shape.mk {op:HOp HV} {mk:Nat->HV} {us0:List Upd} {T:HV} {q:Prop} (h:∀fr,ah L fr op=(mk fr,us0++[.put fr T],q)) (hm:adZ mk) (hT:T.inn p) (hu:∀u∈us0,U9 D p u) (hw:op.wrt=false->us0=[]) (hk:∀u∈us0,∃id t,u=.put id t):Shape L p D op :=
 ⟨us0,hu,hw,fun _=>hk,.inr ⟨mk,T,q,hm,hT,h⟩⟩
theorem Sl {op:BinOp} {x y:HV}:(Qd op x y).1.inn p:=by
 unfold Qd
 split<;>(try split)<;>first|exact kJ|exact oC|exact bQ
theorem Uw {l:List HV} (h:innL p l):innL p (l.flatMap cellsOf):=fun v hv=>by
 obtain ⟨u,hu,hv⟩:=zl055.1 hv
 exact Ad (h u hu) v hv
theorem uh {v:HV} {x:Nat} (h:x∈aQ (cellsOf v)):x∈v.deep:=by
 unfold cellsOf at h
 split at h
 ·exact h
 ·simpa [aQ] using h
theorem Ei {l:List HV} {x:Nat} (h:x∈aQ (l.flatMap cellsOf)):x∈aQ l:=by
 rw [mem_deepL] at h ⊢
 obtain ⟨v,hv,hx⟩:=h
 obtain ⟨u,hu,hv⟩:=zl055.1 hv
 exact ⟨u,hu,uh (mem_deepL.2 ⟨v,hv,hx⟩)⟩
theorem Q5 {fl:Bool} {sz:Nat} {v:HV} (hv:v.inn p) (hD:∀x∈v.deep,x∈D) (hL:∀id,(L id).inn p):innL p (dI L fl sz v).2.1/\(∀u∈(dI L fl sz v).2.2.1,U9 D p u)/\∀u∈(dI L fl sz v).2.2.1,∃id t,u=.put id t:=by
 unfold dI
 split
 ·simp
 ·exact ⟨by simpa using hv,by simp,by simp⟩
 ·rename_i id q sz' off m
  have:=oL (hL id) q
  split
  ·rename_i cs h
   rw [h] at this
   simp only [Au] at this
   split
   ·exact ⟨this.win _ _,by simp,by simp⟩
   ·exact ⟨this,by simp [U9];exact hD id (by simp [HV.deep]),by simp⟩
  ·simp
 ·simp
theorem Gt {fl:Bool} {sz:Nat} {v:HV} (h:∀x∈v.deep,L x=L' x):dI L fl sz v=dI L' fl sz v:=by
 unfold dI
 split<;>first|rfl|skip
 ·rename_i id q sz' off m;rw [h id (by simp [HV.deep])]
theorem uO {ok b:Bool} {v:HV} (h:v.inn p):(okV ok v b).inn p:=by cases ok<;>simp [okV,h]
theorem JD {cs:List HV}:(strOf cs).1.inn p:=by unfold strOf;split<;>simp
theorem Jv {cs:List HV}:(strOf cs).2.1=[]:=by unfold strOf;split<;>rfl
theorem Xx {m:MK} {ks cs:List HV} {k v:HV} (h:innL p cs) (hv:v.inn p):(zM m ks cs k v).inn p:=by
 unfold zM
 split
 ·simp only [vT];exact h.set _ hv
 ·simp only [vT,Ew,aH,LM,and_true];exact ⟨h,hv⟩
theorem Ib {op:HOp HV} (hv:innL p op.vals) (hD:∀x∈aQ op.vals,x∈D) (hl:innL p op.lits) (hL:∀id,(L id).inn p):Shape L p D op:=by
 cases op
 case mv nz v =>
  simp only [HOp.vals,aH] at hv
  cases nz with
  | zero=>exact .pure (fun _=>rfl) rfl hv.1
  | succ k=>cases v<;>first|exact .mk (mk:=fun fr=>.ref fr [] (k+1) 0 0) (us0:=[]) (T:=.osl (k+1) 0 []) (q:=True) (fun _=>rfl) (.inl ⟨_,_,rfl⟩) (by simp) (by simp) (fun _=>rfl) (by simp)|exact .pure (fun _=>rfl) rfl hv.1
 case pick c a b =>
  simp only [HOp.vals,aH] at hv
  cases c<;>first|exact .dead fun _=>rfl|skip
  rename_i t
  refine .pure (fun _=>rfl) ?_ ?_<;>simp only [ah]<;>split<;>first|rfl|exact oC|(split<;>first|exact hv.2.1|exact hv.2.2.1)
 case bin op x y=>exact .pure (fun _=>rfl) rfl Sl
 case beq ne x y=>refine .pure (fun _=>rfl) ?_ ?_<;>simp only [ah]<;>split<;>first|rfl|exact oC|exact bQ
 case aeq ne n x y=>refine .pure (fun _=>rfl) ?_ ?_<;>simp only [ah]<;>split<;>first|rfl|exact oC|exact bQ
 case un op x=>refine .pure (fun _=>rfl) ?_ ?_<;>simp only [ah]<;>split<;>first|rfl|exact oC|exact bQ|exact kJ
 case conv k x=>refine .pure (fun _=>rfl) ?_ ?_<;>simp only [ah]<;>split<;>first|rfl|exact bQ|exact kJ
 case newv sz x =>
  simp only [HOp.vals,aH,aQ,List.append_nil] at hv hD
  obtain ⟨a1,a2,a3⟩:=Hl (D:=D) (Ad hv.1) (fun x hx=>hD x (uh hx)) hL
  exact .mk (mk:=fun fr=>.pref fr [] 0) (fun _=>rfl) (.inr (.inl rfl)) (by simpa using a1) a2 (fun h=>by cases h) a3
 case newz zs=>exact .mk (mk:=fun fr=>.pref fr [] 0) (us0:=[]) (T:=.optr zs) (q:=True) (fun _=>rfl) (.inr (.inl rfl)) (by simpa [HOp.lits] using hl) (by simp) (fun _=>rfl) (by simp)
 case bld zs ps =>
  refine .pure (fun _=>rfl) rfl ?_
  simp only [ah,uY]
  exact MO hl fun q hq=>hv q.2.2 (AP hq)
 case bsl sz n xs =>
  obtain ⟨a1,a2,a3⟩:=Hl (D:=D) (Uw (p:=p) (l:=xs) hv) (fun x hx=>hD x (Ei hx)) hL
  exact .mk (mk:=fun fr=>.ref fr [] sz 0 n) (fun _=>rfl) (.inl ⟨_,_,rfl⟩) (by simpa using a1) a2 (fun h=>by cases h) a3
 case load a sz x =>
  simp only [HOp.vals,aH] at hv
  cases x<;>first|exact .dead fun _=>rfl|skip
  ·have h1:=hv.1
   simp only [FM] at h1
   cases a
   ·exact .pure (fun _=>rfl) rfl (h1.getD _)
   ·exact .pure (fun _=>rfl) rfl (by simp only [ah];simpa using h1.win _ _)
  ·rename_i id q off
   have h1:=hv.1
   simp only [CB] at h1
   have h2:=Gm (oL (hL id) q)
   cases a
   ·exact .pure (fun _=>rfl) rfl (Nz h1 (h2.getD _))
   ·exact .pure (fun _=>rfl) rfl (by simp only [ah];simpa using h2.win _ _)
 case store fl sz x y =>
  simp only [HOp.vals,aH,aQ,List.append_nil,zl002] at hv hD
  cases x<;>first|exact .dead fun _=>rfl|skip
  rename_i id q off
  obtain ⟨a1,a2,a3⟩:=Hl (D:=D) (Ad hv.2.1) (fun x hx=>hD x (.inr (uh hx))) hL
  have ht:=Cb hL a2 id
  refine ⟨(ah L 0 (.store fl sz (.pref id q off) y)).2.1,?_,(fun h=>by cases h),?_,.inl ⟨_,_,?_,fun _=>rfl⟩⟩
  ·intro u hu
   simp only [ah,zl002,zl009] at hu
   rcases hu with (hu|hu)|rfl
   ·exact a2 u hu
   ·cases fl<;>simp at hu
    subst hu;trivial
   ·exact ⟨hD id (.inl (by simp [HV.deep])),CJ (NC (oL ht q) (zi (Gm (oL ht q)) a1 off)) ht q⟩
  ·intro hk u hu
   simp only [HOp.killer,Bool.not_eq_false'] at hk
   subst hk
   simp only [ah,zl002,zl009,if_true,F9,or_false] at hu
   rcases hu with hu|rfl
   ·exact a3 u hu
   ·exact ⟨_,_,rfl⟩
  ·exact bQ
 case nilck x =>
  simp only [HOp.vals,aH] at hv
  cases x<;>first|exact .dead fun _=>rfl|exact .pure (fun _=>rfl) rfl hv.1
 case mkfn f xs=>exact .pure (fun _=>rfl) rfl (by simp only [ah,DF];exact hv)
 case mksl sz bytes z l =>
  cases l<;>first|exact .dead fun _=>rfl|skip
  rename_i k n
  cases k<;>first|exact .dead fun _=>rfl|skip
  refine .mk (mk:=fun fr=>.ref fr [] sz 0 n.toNat) (us0:=[]) (fun _=>rfl) (.inl ⟨_,_,rfl⟩) ?_ (by simp) (fun _=>rfl) (by simp)
  simp only [Au]
  intro v hv'
  obtain ⟨l,hl',hv'⟩:=List.mem_flatten.1 hv'
  rw [List.mem_replicate] at hl'
  rw [hl'.2] at hv'
  exact hl v hv'
 case slc sz x lo hi =>
  simp only [HOp.vals,aH] at hv
  refine .pure (fun _=>rfl) ?_ ?_
  ·simp only [ah]
   repeat' split
   all_goals rfl
  ·simp only [ah]
   split
   ·split
    ·split
     ·simp only [XJ];exact innL.win (by simpa using hv.1) _ _
     ·exact bQ
    ·split
     ·simpa using hv.1
     ·exact bQ
    ·exact bQ
   ·exact bQ
 case faddr d x =>
  simp only [HOp.vals,aH] at hv
  cases x<;>first|exact .dead fun _=>rfl|exact .pure (fun _=>rfl) rfl (by simpa [ah] using hv.1)
 case fld a sz off x =>
  simp only [HOp.vals,aH] at hv
  cases x<;>first|exact .dead fun _=>rfl|skip
  have h1:=hv.1
  simp only [uY] at h1
  cases a
  ·exact .pure (fun _=>rfl) rfl (h1.getD _)
  ·exact .pure (fun _=>rfl) rfl (by simp only [ah];simpa using h1.win _ _)
 case iaddr sz x i =>
  simp only [HOp.vals,aH] at hv
  cases i<;>first|exact .dead fun _=>rfl|skip
  cases x<;>first|exact .dead fun _=>rfl|exact .pure (fun _=>rfl) rfl (by simpa [ah] using hv.1)
 case ext x i =>
  simp only [HOp.vals,aH] at hv
  cases x<;>first|exact .dead fun _=>rfl|skip
  have h1:=hv.1
  simp only [zV] at h1
  exact .pure (fun _=>rfl) rfl (h1.getD _)
 case len x=>cases x<;>first|exact .dead fun _=>rfl|exact .pure (fun _=>rfl) rfl kJ
 case app fl sz bytes x y =>
  simp only [HOp.vals,aH,aQ,List.append_nil,zl002] at hv hD
  obtain ⟨a1,a2,a3⟩:=Q5 (D:=D) (fl:=fl) (sz:=sz) hv.2.1 (fun x hx=>hD x (.inr hx)) hL
  cases x<;>first|exact .dead fun _=>rfl|skip
  ·exact .mk (mk:=fun fr=>.ref fr [] sz 0 (dI L fl sz y).1) (fun _=>rfl) (.inl ⟨_,_,rfl⟩) (by simpa using a1) a2 (fun h=>by cases h) a3
  ·rename_i id q sz' off n
   have ht:=Cb hL a2 id
   have hn:=oL ht q
   simp only [Shape]
   generalize htt:Lk.upd L (dI L fl sz y).2.2.1 id=t at ht hn
   generalize hnn:ax t q=nd at hn
   have dd:(∀fr,ah L fr (.app fl sz bytes (.ref id q sz' off n) y)=(.dead,[],False))->Shape L p D (.app fl sz bytes (.ref id q sz' off n) y):=fun h=>.dead h
   cases nd with
   | osl s m cs =>
    simp only [Au] at hn
    refine Shape.mk (mk:=fun fr=>.ref fr [] sz 0 (n+(dI L fl sz y).1)) (us0:=(dI L fl sz y).2.2.1++[.put id (dh .dead t q)]) (T:=.osl sz (n+(dI L fl sz y).1) (win cs off (n*sz)++(dI L fl sz y).2.1))
     (q:=(dI L fl sz y).2.2.2/\(n+(dI L fl sz y).1)*bytes<=140737488355328/\n+(dI L fl sz y).1<=maxLen/\sz'=sz/\off+n*sz<=cs.length) (fun fr=>?_) (.inl ⟨_,_,rfl⟩) ?_ ?_ (fun h=>by cases h) ?_
    ·simp only [ah,htt,hnn,tZ,List.cons_append,List.nil_append]
    ·simp only [Au,Ew];exact ⟨hn.win _ _,a1⟩
    ·intro u hu
     simp only [zl002,zl009] at hu
     rcases hu with hu|rfl
     ·exact a2 u hu
     ·exact ⟨hD id (.inl (by simp [HV.deep])),CJ bQ ht q⟩
    ·intro u hu
     simp only [zl002,zl009] at hu
     rcases hu with hu|rfl
     ·exact a3 u hu
     ·exact ⟨_,_,rfl⟩
   | _=>exact dd fun fr=>by simp only [ah,htt,hnn]
 case mm mx x y=>refine .pure (fun _=>rfl) ?_ ?_<;>simp only [ah]<;>split<;>first|rfl|exact kJ|exact bQ
 case cpy x y =>
  simp only [HOp.vals,aH,aQ,List.append_nil,zl002] at hv hD
  obtain ⟨a1,_,_⟩:=Q5 (D:=D) (fl:=true) (sz:=1) hv.2.1 (fun x hx=>hD x (.inr hx)) hL
  cases x<;>first|exact .dead fun _=>rfl|skip
  rename_i id q sz' off n
  refine ⟨(ah L 0 (.cpy (.ref id q sz' off n) y)).2.1,?_,(fun h=>by cases h),?_,.inl ⟨_,_,?_,fun _=>rfl⟩⟩
  ·intro u hu
   simp only [ah,zl009] at hu
   subst hu
   exact ⟨hD id (.inl (by simp [HV.deep])),CJ (NC (oL (hL id) q) (zi (Gm (oL (hL id) q)) (fun v hv=>a1 v (FW hv)) off)) (hL id) q⟩
  ·intro _ u hu
   simp only [ah,zl009] at hu
   subst hu
   exact ⟨_,_,rfl⟩
  ·exact kJ
 case slz sz x =>
  cases x<;>first|exact .dead fun _=>rfl|exact .mk (mk:=fun fr=>.ref fr [] sz 0 0) (us0:=[]) (T:=.osl sz 0 []) (q:=True) (fun _=>rfl) (.inl ⟨_,_,rfl⟩) (by simp) (by simp) (fun _=>rfl) (by simp)
 case isn ne x=>refine .pure (fun _=>?_) ?_ ?_<;>simp only [ah]<;>cases x<;>first|rfl|exact oC|exact bQ
 case mnil ne x =>
  cases x<;>first|exact .dead fun _=>rfl|exact .pure (fun _=>rfl) rfl oC|skip
  rename_i id q
  generalize hnn:ax (L id) q=nd
  cases nd with
  | omap m ks cs=>exact .pure (fun _=>by simp only [ah]) (by simp only [ah,hnn]) (by simp only [ah,hnn];exact oC)
  | _=>exact .dead (q:=False) fun fr=>by simp only [ah,hnn]
 case mkmap kk=>exact .mk (mk:=fun fr=>.mref fr []) (us0:=[]) (T:=.omap ⟨kk,none⟩ [] []) (q:=True) (fun _=>rfl) (.inr (.inr rfl)) (by simp) (by simp) (fun _=>rfl) (by simp)
 case mlook ok kk z x k =>
  simp only [HOp.vals,aH] at hv
  simp only [HOp.lits,aH] at hl
  refine .pure (fun _=>rfl) ?_ ?_
  ·simp only [ah]
   repeat' split
   all_goals rfl
  ·simp only [ah]
   split
   ·exact uO hl.1
   ·rename_i m ks cs
    have h1:=hv.1
    simp only [Gz] at h1
    split
    ·exact uO (h1.getD _)
    ·exact uO hl.1
   ·rename_i id q
    have h1:=hv.1
    simp only [Dj] at h1
    have h2:=oL (hL id) q
    split
    ·rename_i m ks cs hnn
     rw [hnn] at h2
     simp only [vT] at h2
     split
     ·exact uO (Nz h1 (h2.getD _))
     ·exact uO hl.1
    ·exact bQ
   ·exact bQ
 case mset kk x k v =>
  simp only [HOp.vals,aH,aQ,List.append_nil,zl002] at hv hD
  cases x<;>first|exact .dead fun _=>rfl|skip
  rename_i id q
  obtain ⟨a1,a2,a3⟩:=bH (D:=D) hv.2.2.1 (fun x hx=>hD x (.inr (.inr hx))) hL
  have ht:=Cb hL a2 id
  generalize hnn:ax (Lk.upd L (takeC L v).2.1 id) q=nd
  cases nd with
  | omap m ks cs =>
   have hcs:=oL ht q
   rw [hnn] at hcs
   simp only [vT] at hcs
   refine ⟨(takeC L v).2.1++[.kill id q.length]++[.put id (dh (zM m ks cs k (takeC L v).1) (Lk.upd L (takeC L v).2.1 id) q)],?_,(fun h=>by cases h),(fun h=>by cases h),.inl ⟨.dead,(takeC L v).2.2/\m.kind=kk/\dB kk k=true,bQ,fun fr=>by simp only [ah,hnn]⟩⟩
   intro u hu
   simp only [zl002,zl009] at hu
   rcases hu with (hu|rfl)|rfl
   ·exact a2 u hu
   ·trivial
   ·exact ⟨hD id (.inl (by simp [HV.deep])),CJ (Xx hcs a1) ht q⟩
  | _=>exact .dead (q:=False) fun fr=>by simp only [ah,hnn]
 case mlen x =>
  cases x<;>first|exact .dead fun _=>rfl|exact .pure (fun _=>rfl) rfl kJ|skip
  rename_i id q
  generalize hnn:ax (L id) q=nd
  cases nd with
  | omap m ks cs=>exact .pure (fun _=>by simp only [ah]) (by simp only [ah,hnn]) (by simp only [ah,hnn];exact kJ)
  | _=>exact .dead (q:=False) fun fr=>by simp only [ah,hnn]
 case mrng=>exact .dead fun _=>rfl
 case mnxt=>exact .dead fun _=>rfl
 case ment=>exact .dead fun _=>rfl
 case tostr x =>
  cases x<;>first|exact .dead fun _=>rfl|exact .pure (fun _=>rfl) rfl YQ|exact .pure (fun _=>rfl) Jv JD|skip
  rename_i id q sz off n
  generalize hnn:ax (L id) q=nd
  cases nd with
  | osl s m cs=>exact .pure (fun _=>by simp only [ah]) (by simp only [ah,hnn];exact Jv) (by simp only [ah,hnn];exact JD)
  | _=>exact .dead (q:=False) fun fr=>by simp only [ah,hnn]
 case call=>exact .dead fun _=>rfl
 case callv=>exact .dead fun _=>rfl
 case bi=>exact .dead fun _=>rfl
 case bad=>exact .dead fun _=>rfl
theorem Hu {op:HOp HV} (h:∀x∈aQ op.vals,L x=L' x) (fr:Nat):ah L fr op=ah L' fr op:=by
 cases op<;>first|rfl|skip
 case newv sz x =>
  simp only [HOp.vals,aQ,List.append_nil] at h
  simp only [ah,yM (L:=L) (L':=L') (l:=cellsOf x) fun x hx=>h x (uh hx)]
 case bsl sz n xs=>simp only [ah,yM (L:=L) (L':=L') (l:=xs.flatMap cellsOf) fun x hx=>h x (Ei hx)]
 case load a sz x =>
  cases x<;>first|rfl|skip
  rename_i id q off
  have:=h id (by simp [HOp.vals,aQ,HV.deep])
  simp only [ah,this]
 case store fl sz x y =>
  cases x<;>first|rfl|skip
  rename_i id q off
  simp only [HOp.vals,aQ,List.append_nil,zl002] at h
  have e1:=yM (L:=L) (L':=L') (l:=cellsOf y) fun x hx=>h x (.inr (uh hx))
  have e2:Lk.upd L (fQ L' (cellsOf y)).2.1 id=Lk.upd L' (fQ L' (cellsOf y)).2.1 id:=Be (.inr (h id (.inl (by simp [HV.deep]))))
  simp only [ah,e1,e2]
 case app fl sz bytes x y =>
  simp only [HOp.vals,aQ,List.append_nil,zl002] at h
  have e1:=Gt (L:=L) (L':=L') (fl:=fl) (sz:=sz) (v:=y) fun x hx=>h x (.inr hx)
  cases x<;>(try (simp only [ah,e1];done))<;>try rfl
  rename_i id q sz' off n
  have e2:Lk.upd L (dI L' fl sz y).2.2.1 id=Lk.upd L' (dI L' fl sz y).2.2.1 id:=Be (.inr (h id (.inl (by simp [HV.deep]))))
  simp only [ah,e1,e2]
 case cpy x y =>
  simp only [HOp.vals,aQ,List.append_nil,zl002] at h
  have e1:=Gt (L:=L) (L':=L') (fl:=true) (sz:=1) (v:=y) fun x hx=>h x (.inr hx)
  cases x<;>(try (simp only [ah,e1];done))<;>try rfl
  rename_i id q sz' off n
  have e2:=h id (.inl (by simp [HV.deep]))
  simp only [ah,e1,e2]
 case mnil ne x =>
  cases x<;>first|rfl|skip
  rename_i id q
  have:=h id (by simp [HOp.vals,aQ,HV.deep])
  simp only [ah,this]
 case mlook ok kk z x k =>
  cases x<;>first|rfl|skip
  rename_i id q
  have:=h id (by simp [HOp.vals,aQ,HV.deep])
  simp only [ah,this]
 case mset kk x k v =>
  cases x<;>first|rfl|skip
  rename_i id q
  simp only [HOp.vals,aQ,List.append_nil,zl002] at h
  have e1:=cO (L:=L) (L':=L') (v:=v) fun x hx=>h x (.inr (.inr hx))
  have e2:Lk.upd L (takeC L' v).2.1 id=Lk.upd L' (takeC L' v).2.1 id:=Be (.inr (h id (.inl (by simp [HV.deep]))))
  simp only [ah,e1,e2]
 case mlen x =>
  cases x<;>first|rfl|skip
  rename_i id q
  have:=h id (by simp [HOp.vals,aQ,HV.deep])
  simp only [ah,this]
 case tostr x =>
  cases x<;>first|rfl|skip
  rename_i id q sz off n
  have:=h id (by simp [HOp.vals,aQ,HV.deep])
  simp only [ah,this]
theorem SA {op:HOp HV} (h:op.touch=false) (fr:Nat):ah L fr op=ah L' fr op:=by
 cases op<;>first|rfl|cases h
end
mutual
def HV.rn (g:Nat->Nat):HV->HV
 | .ref i p sz o n=>.ref (g i) p sz o n
 | .pref i p o=>.pref (g i) p o
 | .mref i p=>.mref (g i) p
 | .agg cs=>.agg (YZ g cs)
 | .tup cs=>.tup (YZ g cs)
 | .fn f cs=>.fn f (YZ g cs)
 | v=>v
def YZ (g:Nat->Nat):List HV->List HV
 | []=>[]
 | v::r=>v.rn g::YZ g r
end
def LD (g:Nat->Nat):Upd->Upd
 | .put id t=>.put (g id) t
 | .kill id n=>.kill (g id) n
mutual
theorem HV.rn_id (g:Nat->Nat):∀v:HV,v.inn (fun i=>g i=i)->v.rn g=v
 | .ref i p sz o n,h=>by simp only [Kt] at h;simp only [HV.rn,h]
 | .pref i p o,h=>by simp only [CB] at h;simp only [HV.rn,h]
 | .mref i p,h=>by simp only [Dj] at h;simp only [HV.rn,h]
 | .agg cs,h=>by simp only [uY] at h;simp only [HV.rn,Lj g cs h]
 | .tup cs,h=>by simp only [zV] at h;simp only [HV.rn,Lj g cs h]
 | .fn f cs,h=>by simp only [DF] at h;simp only [HV.rn,Lj g cs h]
 | .int ..,_=>rfl
 | .bool _,_=>rfl
 | .str _,_=>rfl
 | .nils,_=>rfl
 | .nilp,_=>rfl
 | .nilf,_=>rfl
 | .sl ..,_=>rfl
 | .osl ..,_=>rfl
 | .ptr ..,_=>rfl
 | .optr _,_=>rfl
 | .nilm,_=>rfl
 | .rmap ..,_=>rfl
 | .omap ..,_=>rfl
 | .oitr ..,_=>rfl
 | .dead,_=>rfl
theorem Lj (g:Nat->Nat):∀l:List HV,innL (fun i=>g i=i) l->YZ g l=l
 | [],_=>rfl
 | v::r,h=>by simp only [aH] at h;simp only [YZ,HV.rn_id g v h.1,Lj g r h.2]
end
def adQ (fr fr':Nat) (g:Nat->Nat) (x y:HV×List Upd×Nat):Prop :=
 fr<=x.2.2/\y.2.2+fr=x.2.2+fr'/\((∀k,fr<=k->k<x.2.2->g k=k - fr+fr')->y.1=x.1.rn g/\y.2.1=x.2.1.map (LD g)) /\
  x.1.inn (fun i=>fr<=i/\i<x.2.2)/\∀u∈x.2.1,∃id t,u=.put id t/\fr<=id/\id<x.2.2/\t.deep=[]
def aaP (fr fr':Nat) (g:Nat->Nat) (x y:List HV×List Upd×Nat):Prop :=
 fr<=x.2.2/\y.2.2+fr=x.2.2+fr'/\((∀k,fr<=k->k<x.2.2->g k=k - fr+fr')->y.1=YZ g x.1/\y.2.1=x.2.1.map (LD g)) /\
  innL (fun i=>fr<=i/\i<x.2.2) x.1/\∀u∈x.2.1,∃id t,u=.put id t/\fr<=id/\id<x.2.2/\t.deep=[]
theorem HV.inn_mono {p q:Nat->Prop} {v:HV} (h:v.inn p) (hpq:∀x,p x->q x):v.inn q:=fun x hx=>hpq x (h x hx)
theorem innL.mono {p q:Nat->Prop} {v:List HV} (h:innL p v) (hpq:∀x,p x->q x):innL q v:=fun x hx=>HV.inn_mono (h x hx) hpq
mutual
theorem wJ (g:Nat->Nat):∀ (v:HV) (fr fr':Nat),v.deep=[]->adQ fr fr' g (unpack fr v) (unpack fr' v)
 | .osl sz n cs,fr,fr',hd=>by
  refine ⟨by simp [unpack],by simp [unpack];omega,fun h=>?_,by simp [unpack],by intro u hu;simp only [unpack,zl009] at hu;exact ⟨_,_,hu,aY _,zJ _,hd⟩⟩
  have:=h fr (aY _) (by simp [unpack])
  simp [unpack,HV.rn,LD,this]
 | .optr cs,fr,fr',hd=>by
  refine ⟨by simp [unpack],by simp [unpack];omega,fun h=>?_,by simp [unpack],by intro u hu;simp only [unpack,zl009] at hu;exact ⟨_,_,hu,aY _,zJ _,hd⟩⟩
  have:=h fr (aY _) (by simp [unpack])
  simp [unpack,HV.rn,LD,this]
 | .omap m ks cs,fr,fr',hd=>by
  refine ⟨by simp [unpack],by simp [unpack];omega,fun h=>?_,by simp [unpack],by intro u hu;simp only [unpack,zl009] at hu;exact ⟨_,_,hu,aY _,zJ _,hd⟩⟩
  have:=h fr (aY _) (by simp [unpack])
  simp [unpack,HV.rn,LD,this]
 | .oitr b s l c,fr,fr',hd=>by
  refine ⟨by simp [unpack],by simp [unpack];omega,fun h=>?_,by simp [unpack],by intro u hu;simp only [unpack,zl009] at hu;exact ⟨_,_,hu,aY _,zJ _,hd⟩⟩
  have:=h fr (aY _) (by simp [unpack])
  simp [unpack,HV.rn,LD,this]
 | .agg cs,fr,fr',hd=>by
  obtain ⟨h1,h2,h3,h4,h5⟩:=xk g cs fr fr' hd
  exact ⟨h1,h2,fun h=>by have:=h3 h;simp only [unpack,HV.rn];exact ⟨by rw [this.1],this.2⟩,by simpa [unpack] using h4,h5⟩
 | .tup cs,fr,fr',hd=>by
  obtain ⟨h1,h2,h3,h4,h5⟩:=xk g cs fr fr' hd
  exact ⟨h1,h2,fun h=>by have:=h3 h;simp only [unpack,HV.rn];exact ⟨by rw [this.1],this.2⟩,by simpa [unpack] using h4,h5⟩
 | .fn f cs,fr,fr',hd=>by
  obtain ⟨h1,h2,h3,h4,h5⟩:=xk g cs fr fr' hd
  exact ⟨h1,h2,fun h=>by have:=h3 h;simp only [unpack,HV.rn];exact ⟨by rw [this.1],this.2⟩,by simpa [unpack] using h4,h5⟩
 | .ref i p sz o n,fr,fr',hd=>by cases hd
 | .pref i p o,fr,fr',hd=>by cases hd
 | .mref i p,fr,fr',hd=>by cases hd
 | .nilm,fr,fr',hd=>⟨aY _,lK _ _,fun _=>⟨rfl,rfl⟩,by simp [unpack],by simp [unpack]⟩
 | .int ..,fr,fr',hd=>⟨aY _,lK _ _,fun _=>⟨rfl,rfl⟩,by simp [unpack],by simp [unpack]⟩
 | .bool _,fr,fr',hd=>⟨aY _,lK _ _,fun _=>⟨rfl,rfl⟩,by simp [unpack],by simp [unpack]⟩
 | .str _,fr,fr',hd=>⟨aY _,lK _ _,fun _=>⟨rfl,rfl⟩,by simp [unpack],by simp [unpack]⟩
 | .nils,fr,fr',hd=>⟨aY _,lK _ _,fun _=>⟨rfl,rfl⟩,by simp [unpack],by simp [unpack]⟩
 | .nilp,fr,fr',hd=>⟨aY _,lK _ _,fun _=>⟨rfl,rfl⟩,by simp [unpack],by simp [unpack]⟩
 | .nilf,fr,fr',hd=>⟨aY _,lK _ _,fun _=>⟨rfl,rfl⟩,by simp [unpack],by simp [unpack]⟩
 | .dead,fr,fr',hd=>⟨aY _,lK _ _,fun _=>⟨rfl,rfl⟩,by simp [unpack],by simp [unpack]⟩
 | .sl n cs,fr,fr',hd=>⟨aY _,lK _ _,fun _=>⟨rfl,rfl⟩,(by intro x hx;simp only [unpack] at hx;rw [hd] at hx;cases hx),(by simp [unpack])⟩
 | .ptr cs o,fr,fr',hd=>⟨aY _,lK _ _,fun _=>⟨rfl,rfl⟩,(by intro x hx;simp only [unpack] at hx;rw [hd] at hx;cases hx),(by simp [unpack])⟩
 | .rmap m ks cs,fr,fr',hd=>⟨aY _,lK _ _,fun _=>⟨rfl,rfl⟩,(by intro x hx;simp only [unpack] at hx;rw [hd] at hx;cases hx),(by simp [unpack])⟩
theorem xk (g:Nat->Nat):∀ (l:List HV) (fr fr':Nat),aQ l=[]->aaP fr fr' g (aS fr l) (aS fr' l)
 | [],fr,fr',hd=>⟨aY _,lK _ _,fun _=>⟨rfl,rfl⟩,by simp [aS],by simp [aS]⟩
 | v::r,fr,fr',hd=>by
  simp only [aQ,zl115] at hd
  obtain ⟨a1,a2,a3,a4,a5⟩:=wJ g v fr fr' hd.1
  obtain ⟨b1,b2,b3,b4,b5⟩:=xk g r (unpack fr v).2.2 (unpack fr' v).2.2 hd.2
  refine ⟨by simp only [aS];omega,by simp only [aS];omega,fun h=>?_,?_,?_⟩
  ·simp only [aS] at h ⊢
   obtain ⟨c1,c2⟩:=a3 fun k h1 h2=>h k h1 (by omega)
   obtain ⟨c3,c4⟩:=b3 fun k h1 h2=>by rw [h k (by omega) h2];omega
   simp only [YZ,c1,c2,c3,c4,oW,and_self]
  ·simp only [aS,aH]
   exact ⟨HV.inn_mono a4 fun x hx=>by omega,b4.mono fun x hx=>by omega⟩
  ·intro u hu
   simp only [aS,zl002] at hu ⊢
   rcases hu with hu|hu
   ·obtain ⟨id,t,e,h1,h2,h3⟩:=a5 u hu
    exact ⟨id,t,e,h1,by omega,h3⟩
   ·obtain ⟨id,t,e,h1,h2,h3⟩:=b5 u hu
    exact ⟨id,t,e,by omega,h2,h3⟩
end
structure CF where
 ht:yH
 hm:yH
structure DS where
 rel:FuncId->List HV->HV->Prop
 own:FuncId->Bool
def DS.of (D:FuncId->List HV->HV->Prop):DS:=⟨D,fun _=>false⟩
def kT (C:CF) (D:DS) (M:Lk) (fr:Nat):HOp HV->Prop
 | .call f xs=>if D.own f=true then (aB M xs).2.2/\C.hm f (aB M xs).1 (D.rel f (aB M xs).1)/\∀r,D.rel f (aB M xs).1 r->r.deep=[]->(unpack fr r).2.2<=fr+stride
  else C.ht f (cZ bM M xs) (D.rel f (cZ bM M xs))/\∀r,D.rel f (cZ bM M xs) r->r.deep=[]->(aO xs || r.noRd)=true/\(unpack fr r).2.2<=fr+stride
 | .callv (.fn f cap) xs=>C.ht f (cZ bM M (xs++cap)) (D.rel f (cZ bM M (xs++cap)))/\∀r,D.rel f (cZ bM M (xs++cap)) r->r.deep=[]->(aO (xs++cap) || r.noRd)=true/\(unpack fr r).2.2<=fr+stride
 | op=>(ah M fr op).2.2
def nY (D:DS) (M:Lk) (fr:Nat) (e:HV×List Upd):HOp HV->Prop
 | .call f xs=>if D.own f=true then ∃r,D.rel f (aB M xs).1 r/\r.deep=[]/\e=((unpack fr r).1,(aB M xs).2.1++(unpack fr r).2.1)
  else ∃r,D.rel f (cZ bM M xs) r/\r.deep=[]/\e=((unpack fr r).1,(unpack fr r).2.1)
 | .callv (.fn f cap) xs=>∃r,D.rel f (cZ bM M (xs++cap)) r/\r.deep=[]/\e=((unpack fr r).1,(unpack fr r).2.1)
 | op=>e=((ah M fr op).1,(ah M fr op).2.1)
def gd (all:List HOper) (o:HOper) (S:Lk):Option Bool :=
 match o.guard with
 | none=>some true
 | some (j,want)=>match ((all[j]?).bind (·.dst)).map S with
  | some (.bool b)=>some (b==want)
  | some (.tup [])=>some false
  | _=>none
def eH (C:CF) (D:DS) (all:List HOper) (fr:Nat) (o:HOper) (S M:Lk):Prop :=
 match gd all o S with
 | some true=>kT C D M fr (o.op.map (bU S))
 | some false=>True
 | none=>False
def iG (D:DS) (all:List HOper) (fr:Nat) (o:HOper) (S M:Lk) (e:HV×List Upd):Prop :=
 match gd all o S with
 | some true=>nY D M fr e (o.op.map (bU S))
 | some false=>e=(.tup [],[])
 | none=>False
def nZ (o:HOper) (e:HV×List Upd) (S:Lk):Lk:=fun t=>if o.dst=some t then e.1 else yF S e.2 t
def yE (e:HV×List Upd) (M:Lk):Lk:=Lk.upd M e.2
def jH (o:HOper) (S:Lk):List Nat:=aQ (o.op.map (bU S)).vals
def slotsOf:List HX->List Nat
 | []=>[]
 | .t i::r=>i::slotsOf r
 | .c _::r=>slotsOf r
def looks (all:List HOper) (o:HOper):List Nat :=
 slotsOf o.op.vals++(match o.guard with|none=>[]|some (j,_)=>((all[j]?).bind (·.dst)).toList)
theorem SY {α β:Type} {g g':α->β} {o:HOp α} (h:∀x∈o.vals,g x=g' x):o.map g=o.map g':=by
 cases o<;>simp_all [HOp.vals,HOp.map]
 case bld zs ps =>
  intro a b c hx
  exact h c a b hx
 case slc sz x lo hi =>
  refine ⟨?_,?_⟩
  ·cases lo<;>simp_all
  ·cases hi<;>simp_all
theorem Ui {S S':Lk} {l:List HX} (h:∀t∈slotsOf l,S t=S' t):∀x∈l,bU S x=bU S' x:=by
 induction l with
 | nil=>simp
 | cons y r ih =>
  intro x hx
  cases y with
  | t i =>
   simp only [slotsOf,zl011] at h
   rcases zl011.1 hx with rfl|hx
   ·exact h i (.inl rfl)
   ·exact ih (fun t ht=>h t (.inr ht)) x hx
  | c v =>
   rcases zl011.1 hx with rfl|hx
   ·rfl
   ·exact ih h x hx
theorem lw {all:List HOper} {o:HOper} {S S':Lk} (h:∀t∈looks all o,S t=S' t):o.op.map (bU S)=o.op.map (bU S') :=
 SY (Ui fun t ht=>h t (by simp [looks,ht]))
theorem Dp {all:List HOper} {o:HOper} {S S':Lk} (h:∀t∈looks all o,S t=S' t):gd all o S=gd all o S':=by
 unfold gd
 cases hg:o.guard with
 | none=>rfl
 | some jw =>
  obtain ⟨j,want⟩:=jw
  simp only
  cases hd:(all[j]?).bind (·.dst) with
  | none=>rfl
  | some d =>
   simp only [gV]
   rw [h d (by simp [looks,hg,hd])]
mutual
theorem Qk {T:Nat->Bool} {L L':Lk}:∀v:HV,(∀x∈v.deep,L x=L' x)->v.thaw T L=v.thaw T L'
 | .ref i p sz o n,h=>by have:=h i (by simp [HV.deep]);simp only [HV.thaw,this]
 | .pref i p o,h=>by have:=h i (by simp [HV.deep]);simp only [HV.thaw,this]
 | .mref i p,h=>by have:=h i (by simp [HV.deep]);simp only [HV.thaw,this]
 | .agg cs,h=>by simp only [HV.thaw,jG cs h]
 | .tup cs,h=>by simp only [HV.thaw,jG cs h]
 | .fn f cs,h=>by simp only [HV.thaw,jG cs h]
 | .int ..,_=>rfl
 | .bool _,_=>rfl
 | .str _,_=>rfl
 | .nils,_=>rfl
 | .nilp,_=>rfl
 | .nilf,_=>rfl
 | .sl ..,_=>rfl
 | .osl ..,_=>rfl
 | .ptr ..,_=>rfl
 | .optr _,_=>rfl
 | .nilm,_=>rfl
 | .rmap ..,_=>rfl
 | .omap ..,_=>rfl
 | .oitr ..,_=>rfl
 | .dead,_=>rfl
theorem jG {T:Nat->Bool} {L L':Lk}:∀l:List HV,(∀x∈aQ l,L x=L' x)->cZ T L l=cZ T L' l
 | [],_=>rfl
 | v::r,h=>by
  simp only [aQ,zl002] at h
  simp only [cZ,Qk v fun x hx=>h x (.inl hx),jG r fun x hx=>h x (.inr hx)]
end
theorem xC (a b:List HV):aQ (a++b)=aQ a++aQ b:=by
 induction a with
 | nil=>rfl
 | cons v a ih=>simp [aQ,ih]
mutual
theorem Yd {p:Nat->Prop} {D:List Nat}:∀ (L:Lk) (v:HV),v.inn p->(∀x∈v.deep,x∈D)->(∀id,(L id).inn p)->(takeD L v).1.inn p/\(∀u∈(takeD L v).2.1,U9 D p u)
 | L,.agg cs,h,hD,hL=>by
  simp only [uY] at h
  obtain ⟨a,b⟩:=sG L cs h hD hL
  exact ⟨by simpa [takeD] using a,b⟩
 | L,.tup cs,h,hD,hL=>by
  simp only [zV] at h
  obtain ⟨a,b⟩:=sG L cs h hD hL
  exact ⟨by simpa [takeD] using a,b⟩
 | L,.fn f cs,h,hD,hL=>by
  simp only [DF] at h
  obtain ⟨a,b⟩:=sG L cs h hD hL
  exact ⟨by simpa [takeD] using a,b⟩
 | L,.dead,_,_,_=>by simp [takeD]
 | L,.int ..,h,hD,hL=>by unfold takeD;exact ⟨(bH h hD hL).1,(bH h hD hL).2.1⟩
 | L,.bool _,h,hD,hL=>by unfold takeD;exact ⟨(bH h hD hL).1,(bH h hD hL).2.1⟩
 | L,.str _,h,hD,hL=>by unfold takeD;exact ⟨(bH h hD hL).1,(bH h hD hL).2.1⟩
 | L,.nils,h,hD,hL=>by unfold takeD;exact ⟨(bH h hD hL).1,(bH h hD hL).2.1⟩
 | L,.nilp,h,hD,hL=>by unfold takeD;exact ⟨(bH h hD hL).1,(bH h hD hL).2.1⟩
 | L,.nilf,h,hD,hL=>by unfold takeD;exact ⟨(bH h hD hL).1,(bH h hD hL).2.1⟩
 | L,.sl ..,h,hD,hL=>by unfold takeD;exact ⟨(bH h hD hL).1,(bH h hD hL).2.1⟩
 | L,.osl ..,h,hD,hL=>by unfold takeD;exact ⟨(bH h hD hL).1,(bH h hD hL).2.1⟩
 | L,.ptr ..,h,hD,hL=>by unfold takeD;exact ⟨(bH h hD hL).1,(bH h hD hL).2.1⟩
 | L,.optr _,h,hD,hL=>by unfold takeD;exact ⟨(bH h hD hL).1,(bH h hD hL).2.1⟩
 | L,.nilm,h,hD,hL=>by unfold takeD;exact ⟨(bH h hD hL).1,(bH h hD hL).2.1⟩
 | L,.rmap ..,h,hD,hL=>by unfold takeD;exact ⟨(bH h hD hL).1,(bH h hD hL).2.1⟩
 | L,.omap ..,h,hD,hL=>by unfold takeD;exact ⟨(bH h hD hL).1,(bH h hD hL).2.1⟩
 | L,.oitr ..,h,hD,hL=>by unfold takeD;exact ⟨(bH h hD hL).1,(bH h hD hL).2.1⟩
 | L,.mref ..,h,hD,hL=>by unfold takeD;exact ⟨(bH h hD hL).1,(bH h hD hL).2.1⟩
 | L,.ref ..,h,hD,hL=>by unfold takeD;exact ⟨(bH h hD hL).1,(bH h hD hL).2.1⟩
 | L,.pref ..,h,hD,hL=>by unfold takeD;exact ⟨(bH h hD hL).1,(bH h hD hL).2.1⟩
theorem sG {p:Nat->Prop} {D:List Nat}:∀ (L:Lk) (l:List HV),innL p l->(∀x∈aQ l,x∈D)->(∀id,(L id).inn p)->innL p (aB L l).1/\(∀u∈(aB L l).2.1,U9 D p u)
 | L,[],_,_,_=>by simp [aB]
 | L,v::r,h,hD,hL=>by
  simp only [aH] at h
  simp only [aQ,zl002] at hD
  obtain ⟨a1,a2⟩:=Yd (D:=D) L v h.1 (fun x hx=>hD x (.inl hx)) hL
  obtain ⟨b1,b2⟩:=sG (D:=D) (Lk.upd L (takeD L v).2.1) r h.2 (fun x hx=>hD x (.inr hx)) (Cb hL a2)
  simp only [aB,aH,zl002]
  exact ⟨⟨a1,b1⟩,fun u hu=>hu.elim (a2 u) (b2 u)⟩
end
mutual
theorem NZ:∀ (v:HV) {L L':Lk},(∀x∈v.deep,L x=L' x)->takeD L v=takeD L' v
 | .agg cs,L,L',h=>by unfold takeD;rw [lG cs h]
 | .tup cs,L,L',h=>by unfold takeD;rw [lG cs h]
 | .fn f cs,L,L',h=>by unfold takeD;rw [lG cs h]
 | .dead,_,_,_=>by simp [takeD]
 | .int ..,L,L',h=>by unfold takeD;exact cO h
 | .bool _,L,L',h=>by unfold takeD;exact cO h
 | .str _,L,L',h=>by unfold takeD;exact cO h
 | .nils,L,L',h=>by unfold takeD;exact cO h
 | .nilp,L,L',h=>by unfold takeD;exact cO h
 | .nilf,L,L',h=>by unfold takeD;exact cO h
 | .sl ..,L,L',h=>by unfold takeD;exact cO h
 | .osl ..,L,L',h=>by unfold takeD;exact cO h
 | .ptr ..,L,L',h=>by unfold takeD;exact cO h
 | .optr _,L,L',h=>by unfold takeD;exact cO h
 | .nilm,L,L',h=>by unfold takeD;exact cO h
 | .rmap ..,L,L',h=>by unfold takeD;exact cO h
 | .omap ..,L,L',h=>by unfold takeD;exact cO h
 | .oitr ..,L,L',h=>by unfold takeD;exact cO h
 | .mref ..,L,L',h=>by unfold takeD;exact cO h
 | .ref ..,L,L',h=>by unfold takeD;exact cO h
 | .pref ..,L,L',h=>by unfold takeD;exact cO h
theorem lG:∀ (l:List HV) {L L':Lk},(∀x∈aQ l,L x=L' x)->aB L l=aB L' l
 | [],_,_,_=>rfl
 | v::r,L,L',h=>by
  simp only [aQ,zl002] at h
  have e1:=NZ v (L:=L) (L':=L') fun x hx=>h x (.inl hx)
  simp only [aB,e1]
  rw [lG r (L:=Lk.upd L (takeD L' v).2.1) (L':=Lk.upd L' (takeD L' v).2.1) fun x hx=>Be (.inr (h x (.inr hx)))]
end
section
variable {C:CF} {D:DS} {all:List HOper} {M M' S S':Lk} {fr nx i:Nat}
theorem NV {op:HOp HV} (h:op.touch=false\/∀x∈aQ op.vals,M x=M' x):kT C D M fr op=kT C D M' fr op:=by
 rcases h with h|h
 ·cases op<;>first|cases h;done|exact congrArg (·.2.2) (SA (L:=M) (L':=M') h fr)
 ·cases op
  case call f xs=>simp only [kT,jG (L:=M) (L':=M') xs h,lG xs h]
  case callv x xs =>
   simp only [HOp.vals,aQ,zl002] at h
   cases x
   case fn f cap =>
    have:=jG (T:=bM) (L:=M) (L':=M') (xs++cap) fun x hx=>h x (by rw [xC,zl002] at hx;exact hx.symm)
    simp only [kT,this]
   all_goals rfl
  all_goals exact congrArg (·.2.2) (Hu (L:=M) (L':=M') h fr)
theorem QD {op:HOp HV} {e:HV×List Upd} (h:op.touch=false\/∀x∈aQ op.vals,M x=M' x):nY D M fr e op=nY D M' fr e op:=by
 rcases h with h|h
 ·cases op<;>first|cases h;done|exact congrArg (fun q:HV×List Upd×Prop=>e=(q.1,q.2.1)) (SA (L:=M) (L':=M') h fr)
 ·cases op
  case call f xs=>simp only [nY,jG (L:=M) (L':=M') xs h,lG xs h]
  case callv x xs =>
   simp only [HOp.vals,aQ,zl002] at h
   cases x
   case fn f cap =>
    have:=jG (T:=bM) (L:=M) (L':=M') (xs++cap) fun x hx=>h x (by rw [xC,zl002] at hx;exact hx.symm)
    simp only [nY,this]
   all_goals rfl
  all_goals exact congrArg (fun q:HV×List Upd×Prop=>e=(q.1,q.2.1)) (Hu (L:=M) (L':=M') h fr)
theorem uM {o:HOper} (hS:∀t∈looks all o,S t=S' t) (hM:o.op.touch=false\/∀x∈jH o S,M x=M' x):eH C D all fr o S M=eH C D all fr o S' M':=by
 unfold eH
 rw [Dp hS,lw hS]
 rw [jH,lw hS] at hM
 rw [NV (M:=M) (M':=M') (by rw [HOp.touch_map];exact hM)]
theorem xw {o:HOper} {e:HV×List Upd} (hS:∀t∈looks all o,S t=S' t) (hM:o.op.touch=false\/∀x∈jH o S,M x=M' x):iG D all fr o S M e=iG D all fr o S' M' e:=by
 unfold iG
 rw [Dp hS,lw hS]
 rw [jH,lw hS] at hM
 rw [QD (M:=M) (M':=M') (by rw [HOp.touch_map];exact hM)]
def BQ (nx i x:Nat):Prop:=nx+stride*i<=x/\x<nx+stride*(i+1)
def vO (nx:Nat) (X:Nat->Prop) (x:Nat):Prop:=x<nx\/∃k,X k/\BQ nx k x
structure Inv (nx:Nat) (X:Nat->Prop) (S M:Lk):Prop where
 slots:∀t,(S t).inn (vO nx X)
 trees:∀id,(M id).inn (vO nx X)
 alive:∀id,M id≠.dead->vO nx X id
theorem RU {i j x:Nat} (h1:BQ nx i x) (h2:BQ nx j x):i=j:=by
 unfold BQ stride at *;omega
theorem uU {X:Nat->Prop} {x:Nat} (h:vO nx X x) (hr:BQ nx i x):X i:=by
 rcases h with h|⟨k,hk,h⟩
 ·unfold BQ stride at hr;omega
 ·rw [RU hr h];exact hk
theorem lZ {X Y:Nat->Prop} (h:∀k,X k->Y k) {x:Nat} (hx:vO nx X x):vO nx Y x:=hx.imp id fun ⟨k,hk,hr⟩=>⟨k,h k hk,hr⟩
def rC (o:HOper):Bool:=(aQ o.op.lits).isEmpty&&o.op.vals.all fun|.c v=>v.deep.isEmpty|_=>true
theorem Dq {X:Nat->Prop} (hI:Inv nx X S M) {o:HOper} (hl:rC o=true):innL (vO nx X) (o.op.map (bU S)).vals:=by
 rw [HOp.vals_map]
 intro v hv
 obtain ⟨x,hx,rfl⟩:=zl020.1 hv
 cases x with
 | t i=>exact hI.slots i
 | c v =>
  simp only [rC,aZ,zl016] at hl
  have:=hl.2 _ hx
  simp only [EZ] at this
  intro y hy
  simp only [bU,this] at hy
  cases hy
theorem Yc {X:Nat->Prop} {o:HOper} (hl:rC o=true):innL (vO nx X) (o.op.map (bU S)).lits:=by
 rw [HOp.lits_map,innL_iff]
 simp only [rC,aZ,EZ] at hl
 rw [hl.1]
 simp
theorem Zj {X:Nat->Prop} {op:HOp HV} {e:HV×List Upd} (hv:innL (vO nx X) op.vals) (hl:innL (vO nx X) op.lits) (hT:∀id,(M id).inn (vO nx X)) (hs:kT C D M (nx+stride*i) op) (h:nY D M (nx+stride*i) e op) :
  e.1.inn (vO nx fun k=>X k\/k=i)/\(∀u∈e.2,ZF (vO nx fun k=>X k\/k=i) u)/\(∀x∈iE e.2,BQ nx i x\/(op.wrtO D.own=true/\x∈aQ op.vals))/\(op.killer=false->∀u∈e.2,∃id t,u=.put id t):=by
 have up:∀x,vO nx X x->vO nx (fun k=>X k\/k=i) x:=fun x hx=>lZ (fun k hk=>.inl hk) hx
 have r0:BQ nx i (nx+stride*i):=by unfold BQ stride;omega
 have call:∀ (f:FuncId) (xs:List HV) (args:List HV),(C.ht f args (D.rel f args)/\∀r,D.rel f args r->r.deep=[]->(aO xs || r.noRd)=true/\(unpack (nx+stride*i) r).2.2<=nx+stride*i+stride)->(∃r,D.rel f args r/\r.deep=[]/\e=((unpack (nx+stride*i) r).1,(unpack (nx+stride*i) r).2.1)) ->
   e.1.inn (vO nx fun k=>X k\/k=i)/\(∀u∈e.2,ZF (vO nx fun k=>X k\/k=i) u)/\(∀x∈iE e.2,BQ nx i x)/\∀u∈e.2,∃id t,u=.put id t:=by
  rintro f xs args ⟨_,hb⟩ ⟨r,hr,hd,rfl⟩
  obtain ⟨_,_,_,h4,h5⟩:=wJ id r (nx+stride*i) (nx+stride*i) hd
  have h6:=(hb r hr hd).2
  have R:∀x,nx+stride*i<=x->x<(unpack (nx+stride*i) r).2.2->BQ nx i x:=fun x h1 h2=>⟨h1,by unfold stride at *;omega⟩
  refine ⟨HV.inn_mono h4 fun x hx=>.inr ⟨i,.inr rfl,R x hx.1 hx.2⟩,?_,?_,?_⟩
  ·intro u hu
   obtain ⟨id,t,rfl,h1,h2,h3⟩:=h5 u hu
   exact ⟨.inr ⟨i,.inr rfl,R id h1 h2⟩,fun x hx=>by rw [h3] at hx;cases hx⟩
  ·intro x hx
   generalize (unpack (nx+stride*i) r).2.1=us at h5 hx
   induction us with
   | nil=>cases hx
   | cons u us ih =>
    obtain ⟨id,t,rfl,h1,h2,h3⟩:=h5 u (by simp)
    simp only [iE,zl011] at hx
    rcases hx with rfl|hx
    ·exact R _ h1 h2
    ·exact ih (fun u hu=>h5 u (by simp [hu])) hx
  ·intro u hu
   obtain ⟨id,t,rfl,_⟩:=h5 u hu
   exact ⟨id,t,rfl⟩
 have plain:e=((ah M (nx+stride*i) op).1,(ah M (nx+stride*i) op).2.1)->e.1.inn (vO nx fun k=>X k\/k=i)/\(∀u∈e.2,ZF (vO nx fun k=>X k\/k=i) u)/\(∀x∈iE e.2,BQ nx i x\/(op.wrtO D.own=true/\x∈aQ op.vals))/\(op.killer=false->∀u∈e.2,∃id t,u=.put id t):=by
  intro he
  obtain ⟨us0,a1,a2,a3,a4⟩:=Ib (L:=M) (op:=op) (D:=aQ op.vals) hv (fun x hx=>hx) hl hT
  have hv':=innL_iff.1 hv
  have b1:∀u∈us0,ZF (vO nx fun k=>X k\/k=i) u:=fun u hu=>by
   have:=a1 u hu
   cases u with
   | put id t=>exact ⟨up _ (hv' id this.1),HV.inn_mono this.2 up⟩
   | kill=>trivial
  have b2:∀x∈iE us0,BQ nx i x\/(op.wrtO D.own=true/\x∈aQ op.vals):=by
   intro x hx
   right
   refine ⟨?_,?_⟩
   ·cases hw:op.wrt with
    | true=>exact HOp.wrtO_of D.own hw
    | false=>rw [a2 hw] at hx;cases hx
   ·clear a2 a3 a4 b1
    induction us0 with
    | nil=>cases hx
    | cons u us ih =>
     have ih:=ih (fun u hu=>a1 u (by simp [hu]))
     cases u with
     | put id t =>
      simp only [iE,zl011] at hx
      rcases hx with rfl|hx
      ·exact (a1 (.put x t) (by simp)).1
      ·exact ih hx
     | kill=>exact ih hx
  rcases a4 with ⟨v,q,h1,h2⟩|⟨mk,T,q,h0,h1,h2⟩
  ·rw [h2] at he
   subst he
   exact ⟨HV.inn_mono h1 up,b1,b2,a3⟩
  ·rw [h2] at he
   subst he
   refine ⟨?_,?_,?_,?_⟩
   ·rcases h0 with ⟨sz,n,rfl⟩|rfl|rfl
    ·simp only [Kt];exact .inr ⟨i,.inr rfl,r0⟩
    ·simp only [CB];exact .inr ⟨i,.inr rfl,r0⟩
    ·simp only [Dj];exact .inr ⟨i,.inr rfl,r0⟩
   ·intro u hu
    simp only [zl002,zl009] at hu
    rcases hu with hu|rfl
    ·exact b1 u hu
    ·exact ⟨.inr ⟨i,.inr rfl,r0⟩,HV.inn_mono h1 up⟩
   ·intro x hx
    simp only [EX,iE,zl002,zl009] at hx
    rcases hx with hx|rfl
    ·exact b2 x hx
    ·exact .inl r0
   ·intro hk u hu
    simp only [zl002,zl009] at hu
    rcases hu with hu|rfl
    ·exact a3 hk u hu
    ·exact ⟨_,_,rfl⟩
 have w:(e.1.inn (vO nx fun k=>X k\/k=i)/\(∀u∈e.2,ZF (vO nx fun k=>X k\/k=i) u)/\(∀x∈iE e.2,BQ nx i x)/\∀u∈e.2,∃id t,u=.put id t)->e.1.inn (vO nx fun k=>X k\/k=i)/\(∀u∈e.2,ZF (vO nx fun k=>X k\/k=i) u)/\(∀x∈iE e.2,BQ nx i x\/(op.wrtO D.own=true/\x∈aQ op.vals))/\(op.killer=false->∀u∈e.2,∃id t,u=.put id t) :=
  fun ⟨a,b,c,d⟩=>⟨a,b,fun x hx=>.inl (c x hx),fun _=>d⟩
 cases op
 case call f xs =>
  simp only [kT] at hs
  simp only [nY] at h
  by_cases ho:D.own f=true
  ·rw [if_pos ho] at hs h
   obtain ⟨r,hr,hd,rfl⟩:=h
   have hv:innL (vO nx X) xs:=hv
   obtain ⟨_,a2⟩:=sG (D:=aQ xs) M xs hv (fun x hx=>hx) hT
   have a3:=nN M xs
   obtain ⟨_,_,_,h4,h5⟩:=wJ id r (nx+stride*i) (nx+stride*i) hd
   have h6:=hs.2.2 r hr hd
   have R:∀x,nx+stride*i<=x->x<(unpack (nx+stride*i) r).2.2->BQ nx i x:=fun x h1 h2=>⟨h1,by unfold stride at *;omega⟩
   refine ⟨HV.inn_mono h4 fun x hx=>.inr ⟨i,.inr rfl,R x hx.1 hx.2⟩,fun u hu=>?_,fun x hx=>?_,fun _ u hu=>?_⟩
   ·rcases zl002.1 hu with hu|hu
    ·have:=a2 u hu
     cases u with
     | put id t=>exact ⟨up _ (innL_iff.1 hv id this.1),HV.inn_mono this.2 up⟩
     | kill=>trivial
    ·obtain ⟨id,t,rfl,h1,h2,h3⟩:=h5 u hu
     exact ⟨.inr ⟨i,.inr rfl,R id h1 h2⟩,fun x hx=>by rw [h3] at hx;cases hx⟩
   ·simp only [EX,zl002] at hx
    rcases hx with hx|hx
    ·refine .inr ⟨ho,?_⟩
     show x∈aQ xs
     generalize (aB M xs).2.1=us at a2 hx
     induction us with
     | nil=>cases hx
     | cons u us ih =>
      have ih:=ih (fun u hu=>a2 u (by simp [hu]))
      cases u with
      | put id t =>
       simp only [iE,zl011] at hx
       rcases hx with rfl|hx
       ·exact (a2 (.put x t) (by simp)).1
       ·exact ih hx
      | kill=>exact ih hx
    ·left
     generalize (unpack (nx+stride*i) r).2.1=us at h5 hx
     induction us with
     | nil=>cases hx
     | cons u us ih =>
      obtain ⟨id,t,rfl,h1,h2,h3⟩:=h5 u (by simp)
      simp only [iE,zl011] at hx
      rcases hx with rfl|hx
      ·exact R _ h1 h2
      ·exact ih (fun u hu=>h5 u (by simp [hu])) hx
   ·rcases zl002.1 hu with hu|hu
    ·exact a3 u hu
    ·obtain ⟨id,t,rfl,_⟩:=h5 u hu
     exact ⟨id,t,rfl⟩
  ·rw [if_neg ho] at hs h
   exact w (call f xs _ hs h)
 case callv x xs =>
  cases x
  case fn f cap=>exact w (call f (xs++cap) _ hs h)
  all_goals exact plain h
 all_goals exact plain h
mutual
theorem Cc {p:Nat->Prop} (id len:Nat):∀v:HV,v.inn p->(v.kill id len).inn p
 | .ref i q sz o n,h=>by simp only [HV.kill];split;exact bQ;exact h
 | .pref i q o,h=>by simp only [HV.kill];split;exact bQ;exact h
 | .mref i q,h=>by simp only [HV.kill];split;exact bQ;exact h
 | .agg cs,h=>by simp only [HV.kill,uY] at h ⊢;exact zS id len cs h
 | .tup cs,h=>by simp only [HV.kill,zV] at h ⊢;exact zS id len cs h
 | .fn f cs,h=>by simp only [HV.kill,DF] at h ⊢;exact zS id len cs h
 | .int ..,h=>h
 | .bool _,h=>h
 | .str _,h=>h
 | .nils,h=>h
 | .nilp,h=>h
 | .nilf,h=>h
 | .sl ..,h=>h
 | .osl ..,h=>h
 | .ptr ..,h=>h
 | .optr _,h=>h
 | .nilm,h=>h
 | .rmap ..,h=>h
 | .omap ..,h=>h
 | .oitr ..,h=>h
 | .dead,h=>h
theorem zS {p:Nat->Prop} (id len:Nat):∀l:List HV,innL p l->innL p (tK id len l)
 | [],h=>h
 | v::r,h=>by simp only [tK,aH] at h ⊢;exact ⟨Cc id len v h.1,zS id len r h.2⟩
end
theorem Rj {p:Nat->Prop} {us:List Upd} {S:Lk} (h:∀t,(S t).inn p) (t:Nat):(yF S us t).inn p:=by
 induction us generalizing S with
 | nil=>exact h t
 | cons u us ih =>
  cases u with
  | put=>exact ih h
  | kill id len=>exact ih fun t=>Cc id len _ (h t)
theorem uP {X:Nat->Prop} (hI:Inv nx X S M) {o:HOper} (hl:rC o=true) {e:HV×List Upd} (hs:eH C D all (nx+stride*i) o S M) (h:iG D all (nx+stride*i) o S M e) :
  e.1.inn (vO nx fun k=>X k\/k=i)/\(∀u∈e.2,ZF (vO nx fun k=>X k\/k=i) u)/\(∀x∈iE e.2,BQ nx i x\/(o.op.wrtO D.own=true/\x∈jH o S))/\(o.op.killer=false->∀u∈e.2,∃id t,u=.put id t):=by
 unfold eH at hs
 unfold iG at h
 split at hs
 ·rename_i hg
  rw [hg] at h
  have:=Zj (Dq hI hl) (Yc hl) hI.trees hs h
  rw [HOp.wrtO_map,HOp.killer_map] at this
  exact this
 ·rename_i hg
  rw [hg] at h
  subst h
  simp [iE]
 ·exact hs.elim
theorem Inv.step {X:Nat->Prop} (hI:Inv nx X S M) {o:HOper} {e:HV×List Upd} (h1:e.1.inn (vO nx fun k=>X k\/k=i)) (h2:∀u∈e.2,ZF (vO nx fun k=>X k\/k=i) u):Inv nx (fun k=>X k\/k=i) (nZ o e S) (yE e M):=by
 have up:∀x,vO nx X x->vO nx (fun k=>X k\/k=i) x:=fun x hx=>lZ (fun k hk=>.inl hk) hx
 refine ⟨fun t=>?_,fun id=>?_,fun id hid=>?_⟩
 ·unfold nZ
  split
  ·exact h1
  ·exact Rj (fun t=>HV.inn_mono (hI.slots t) up) t
 ·exact Zp (fun id=>HV.inn_mono (hI.trees id) up) h2 id
 ·by_cases ht:id∈iE e.2
  ·generalize e.2=us at h2 ht
   induction us with
   | nil=>cases ht
   | cons u us ih =>
    cases u with
    | put j t =>
     simp only [iE,zl011] at ht
     rcases ht with rfl|ht
     ·exact (h2 (.put id t) (by simp)).1
     ·exact ih (fun u hu=>h2 u (by simp [hu])) ht
    | kill=>exact ih (fun u hu=>h2 u (by simp [hu])) ht
  ·unfold yE at hid
   rw [qi ht] at hid
   exact up _ (hI.alive id hid)
end
def rq (masks:List Nat) (k i:Nat):Bool:=(masks.getD i 0).testBit k
def zt (all:List HOper) (x y:HOper):Bool :=
 (match x.dst with|some d=>!(looks all y).contains d&&y.dst != some d|none=>true)&&(match y.dst with|some d=>!(looks all x).contains d|none=>true)
def wW (own:FuncId->Bool) (x y:HOper):Bool:=(x.op.wrtO own&&y.op.touch) || (y.op.wrtO own&&x.op.touch)
def U6 (x y:HOper):Bool:=(x.op.wrt&&y.op.touch) || (y.op.wrt&&x.op.touch)
theorem Gf (x y:HOper):wW (fun _=>false) x y=U6 x y:=by simp only [wW,U6,HOp.wrtO_no]
def yT (o:HOper):Bool:=match o.op,o.guard with
 | .ext (.t _) _,none=>true
 | _,_=>false
def FU (all:List HOper) (x y:HOper):Bool:=zt all x y&&(yT x || yT y || (!x.op.killer&&!y.op.killer))
def Yb (masks:List Nat) (all:List HOper) (i:Nat) (o:HOper):Bool :=
 decide (masks.getD i 0<2 ^ i)&&rC o&&(List.range i).all fun k=>rq masks k i || (match all[k]? with|some q=>FU all q o|none=>false)
def lQ (masks:List Nat) (all:List HOper):Bool :=
 (List.range all.length).all fun i=>match all[i]? with|some o=>Yb masks all i o|none=>false
theorem vw {all:List HOper} {x y:HOper} (h:zt all x y=true):(∀d,x.dst=some d->d ∉ looks all y)/\(∀d,x.dst=some d->y.dst≠some d)/\(∀d,y.dst=some d->d ∉ looks all x):=by
 refine ⟨fun d hd=>?_,fun d hd=>?_,fun d hd=>?_⟩<;>simp [zt,hd] at h
 ·exact h.1.1
 ·exact h.1.2
 ·exact h.2
theorem OB {all:List HOper} {x y:HOper} (h:zt all x y=true):zt all y x=true:=by
 obtain ⟨h1,h2,h3⟩:=vw h
 unfold zt
 cases hx:x.dst with
 | none =>
  cases hy:y.dst with
  | none=>rfl
  | some d=>have:=h3 d hy;simp [this]
 | some d =>
  have a1:=h1 d hx
  have a2:=h2 d hx
  cases hy:y.dst with
  | none=>simp [a1]
  | some d' =>
   have a3:=h3 d' hy
   rw [hy] at a2
   have:¬ d=d':=fun e=>a2 (by rw [e])
   simp [a1,a3,this]
theorem Pz (own:FuncId->Bool) (x y:HOper):wW own x y=wW own y x:=by unfold wW;rw [Bool.or_comm]
def KD (o:HOper) (S:Lk):Option Nat:=match o.op.map (bU S) with
 | .load false _ (.pref id [] _)=>some id
 | _=>none
def qH (o:HOper) (S:Lk):List Nat:=match KD o S with
 | some id=>[2*id+1]
 | none=>(jH o S).map (2*·)
def IM (o:HOper) (S:Lk):Option Nat:=match o.op.map (bU S) with
 | .app true _ _ (.ref id (_::_::_) _ _ _) _=>some id
 | _=>none
def vP (o:HOper) (S:Lk) (us:List Upd):List Nat:=(iE us).flatMap fun x=>if IM o S=some x then [2*x] else [2*x,2*x+1]
def Eo:HV->HV
 | .osl sz n _=>.osl sz n []
 | .optr _=>.optr []
 | .omap m ks _=>.omap m ks []
 | v=>v
def shallow (t:HV):List HV:=(aW t).map Eo
def Ff (c:Nat) (M M':Lk):Prop:=if c % 2=0 then M (c / 2)=M' (c / 2) else shallow (M (c / 2))=shallow (M' (c / 2))
theorem RF {c:Nat} {M M':Lk} (h:M (c / 2)=M' (c / 2)):Ff c M M':=by
 unfold Ff;split
 ·exact h
 ·rw [h]
theorem yO {o:HOper} {S:Lk} {c:Nat} (h:c∈qH o S):c / 2∈jH o S:=by
 unfold qH at h
 split at h
 ·rename_i id hs
  simp only [zl009] at h
  subst h
  unfold KD at hs
  split at hs
  ·rename_i sz id' off ho
   cases hs
   unfold jH
   rw [ho]
   simp [HOp.vals,aQ,HV.deep];omega
  ·cases hs
 ·obtain ⟨x,hx,rfl⟩:=zl020.1 h
  simpa using hx
theorem L9 {o:HOper} {S:Lk} {us:List Upd} {c:Nat} (h:c∈vP o S us):c / 2∈iE us:=by
 unfold vP at h
 obtain ⟨x,hx,hc⟩:=zl055.1 h
 split at hc
 ·simp only [zl009] at hc;subst hc;simpa using hx
 ·simp only [zl011,F9,or_false] at hc
  rcases hc with rfl|rfl
  ·simpa using hx
  ·have:(2*x+1) / 2=x:=by omega
   rw [this];exact hx
theorem F5 {o:HOper} {S:Lk} {us:List Upd} {x:Nat} (h:x∈iE us):2*x∈vP o S us:=by
 unfold vP
 refine zl055.2 ⟨x,h,?_⟩
 split<;>simp
theorem RX {o:HOper} {S:Lk} {us:List Upd} {x:Nat} (h:x∈iE us) (h2:2*x+1 ∉ vP o S us):IM o S=some x:=by
 by_cases hd:IM o S=some x
 ·exact hd
 ·exact absurd (zl055.2 ⟨x,h,by rw [if_neg hd];simp⟩) h2
theorem Y1 {own:FuncId->Bool} {o:HOper} {S:Lk} (h:o.op.wrtO own=true):qH o S=(jH o S).map (2*·):=by
 have:KD o S=none:=by
  unfold KD
  obtain ⟨d,op,g⟩:=o
  cases op<;>first|rfl|(simp only [HOp.wrtO,HOp.wrt] at h;cases h;done)
 unfold qH;rw [this]
theorem P8 {x:HV} {a:Nat} {q:List Nat} (v:HV):Eo (dh x v (a::q))=Eo v:=by cases v<;>rfl
theorem KY {x t:HV} {a b:Nat} {q:List Nat}:shallow (dh x t (a::b::q))=shallow t:=by
 have key:∀cs:List HV,(cs.set a (dh x (cs.getD a .dead) (b::q))).map Eo=cs.map Eo:=fun cs=>by
  rw [List.map_set,P8]
  apply rF
  intro k
  rw [CW]
  split
  ·rename_i e;subst e
   split
   ·rename_i h;simp at h;simp [h]
   ·rename_i h;simp at h;simp [h]
  ·rfl
 cases t<;>simp only [dh,shallow,aW]<;>first|rfl|exact key _
theorem GK (id:Nat) (p:List Nat) (j:Nat) (v:HV):look id p j v=look id p j (Eo v):=by
 cases v<;>rfl
theorem IJ {id off sz fr:Nat} {M M':Lk} (h:shallow (M id)=shallow (M' id)):ah M fr (.load false sz (.pref id [] off))=ah M' fr (.load false sz (.pref id [] off)):=by
 have hl:(aW (M id)).length=(aW (M' id)).length:=by
  have:=congrArg List.length h
  simpa [shallow] using this
 have hg:Eo ((aW (M id)).getD off .dead)=Eo ((aW (M' id)).getD off .dead):=by
  have:=congrArg (fun l:List HV=>l[off]?) h
  simp only [shallow,fZ] at this
  simp only [bf]
  cases h1:(aW (M id))[off]?<;>cases h2:(aW (M' id))[off]?<;>rw [h1,h2] at this<;>simp_all
 have e1:look id [] off ((aW (M id)).getD off .dead)=look id [] off ((aW (M' id)).getD off .dead):=by rw [GK,hg,<- GK]
 simp only [ah,ax,e1,hl,Bool.false_eq_true,if_false]
abbrev l7:=List (Nat×List Nat×List Nat)
def chk (own:FuncId->Bool) (masks:List Nat) (all:List HOper) (i:Nat) (o:HOper) (e:HV×List Upd) (S:Lk) (q:Nat×List Nat×List Nat):Prop :=
 rq masks q.1 i=false->rq masks i q.1=false->∀o',all[q.1]?=some o'->wW own o' o=true->(∀x∈vP o S e.2,x ∉ q.2.2)/\∀x∈q.2.1,x ∉ qH o S
section
variable {C:CF} {D:DS} {all:List HOper} {masks:List Nat} {nx:Nat} {K:Lk->Lk->Prop}
def dr (C:CF) (D:DS) (all:List HOper) (masks:List Nat) (nx:Nat) (K:Lk->Lk->Prop):List Nat->l7->Lk->Lk->Prop
 | [],_,S,M=>K S M
 | i::l,log,S,M=>∃o,all[i]?=some o/\eH C D all (nx+stride*i) o S M/\(∃e,iG D all (nx+stride*i) o S M e) /\
   ∀e,iG D all (nx+stride*i) o S M e->(∀q∈log,chk D.own masks all i o e S q)/\dr C D all masks nx K l ((i,vP o S e.2,qH o S)::log) (nZ o e S) (yE e M)
theorem aa3:∀ {l:List Nat} {log log':l7} {S M:Lk},dr C D all masks nx K l log S M->(∀q∈log',q∈log)->dr C D all masks nx K l log' S M:=by
 intro l
 induction l with
 | nil=>intro log log' S M h _;exact h
 | cons i l ih =>
  intro log log' S M h hl
  obtain ⟨o,ho,hs,he,h⟩:=h
  refine ⟨o,ho,hs,he,fun e hre=>⟨fun q hq=>(h e hre).1 q (hl q hq),ih (h e hre).2 ?_⟩⟩
  intro q hq
  rcases zl011.1 hq with rfl|hq
  ·simp
  ·exact yh _ (hl q hq)
theorem Oz {o:HOper} {S S':Lk} (hS:∀t∈looks all o,S t=S' t):jH o S=jH o S':=by unfold jH;rw [lw hS]
theorem nK {o:HOper} {S S':Lk} (hS:∀t∈looks all o,S t=S' t):qH o S=qH o S':=by unfold qH KD;rw [Oz hS,lw hS]
theorem nM {o:HOper} {S S':Lk} (hS:∀t∈looks all o,S t=S' t) (us:List Upd):vP o S us=vP o S' us:=by unfold vP IM;rw [lw hS]
theorem Dk {fr:Nat} {o:HOper} {S S' M M':Lk} (hS:∀t∈looks all o,S t=S' t) (hM:o.op.touch=false\/∀c∈qH o S,Ff c M M'):eH C D all fr o S M=eH C D all fr o S' M':=by
 rcases hM with h|h
 ·exact uM hS (.inl h)
 ·cases hs:KD o S with
  | none =>
   unfold qH at h
   rw [hs] at h
   refine uM hS (.inr fun x hx=>?_)
   have:=h (2*x) (AP hx)
   unfold Ff at this
   rw [if_pos (by omega)] at this
   simpa using this
  | some id =>
   unfold qH at h
   rw [hs] at h
   have hv:=h (2*id+1) (by simp)
   unfold Ff at hv
   rw [if_neg (by omega),show (2*id+1) / 2=id by omega] at hv
   unfold eH
   rw [<- Dp hS,<- lw hS]
   unfold KD at hs
   split at hs
   ·rename_i sz id' off ho
    cases hs
    rw [ho]
    simp only [kT,IJ hv]
   ·cases hs
theorem yX {fr:Nat} {o:HOper} {e:HV×List Upd} {S S' M M':Lk} (hS:∀t∈looks all o,S t=S' t) (hM:o.op.touch=false\/∀c∈qH o S,Ff c M M'):iG D all fr o S M e=iG D all fr o S' M' e:=by
 rcases hM with h|h
 ·exact xw hS (.inl h)
 ·cases hs:KD o S with
  | none =>
   unfold qH at h
   rw [hs] at h
   refine xw hS (.inr fun x hx=>?_)
   have:=h (2*x) (AP hx)
   unfold Ff at this
   rw [if_pos (by omega)] at this
   simpa using this
  | some id =>
   unfold qH at h
   rw [hs] at h
   have hv:=h (2*id+1) (by simp)
   unfold Ff at hv
   rw [if_neg (by omega),show (2*id+1) / 2=id by omega] at hv
   unfold iG
   rw [<- Dp hS,<- lw hS]
   unfold KD at hs
   split at hs
   ·rename_i sz id' off ho
    cases hs
    rw [ho]
    simp only [nY,IJ hv]
   ·cases hs
theorem NG {fr:Nat} {o:HOper} {e:HV×List Upd} {S M:Lk} {x:Nat} (hs:eH C D all fr o S M) (hr:iG D all fr o S M e) (hd:IM o S=some x) (hx:x≠fr):shallow (yE e M x)=shallow (M x):=by
 unfold IM at hd
 split at hd
 ·rename_i sz bytes id a b q sz2 off n y ho
  cases hd
  unfold eH at hs
  unfold iG at hr
  split at hs
  ·rename_i hg
   rw [hg,ho] at hr
   rw [ho] at hs
   have hn:(dI M true sz y).2.2.1=[]:=by
    unfold dI
    split<;>(try split)<;>(try split)<;>first|rfl|simp_all
   simp only [kT,ah] at hs
   simp only [nY,ah] at hr
   rw [hn] at hs hr
   simp only [Lk.upd] at hs hr
   cases ht:ax (M x) (a::b::q)<;>rw [ht] at hs hr<;>simp only at hs hr<;>(first|exact hs.elim|skip)
   subst hr
   unfold yE
   simp only [List.nil_append,Lk.upd,if_neg hx,if_true]
   exact KY
  ·rename_i hg
   rw [hg] at hr
   subst hr
   rfl
  ·exact hs.elim
 ·cases hd
theorem D7 {o:HOper} (h:yT o=true):∃d k i,o=⟨d,.ext (.t k) i,none⟩:=by
 obtain ⟨d,op,g⟩:=o
 cases op<;>simp only [yT] at h<;>(first|(cases h;done)|skip)
 rename_i x i
 cases x<;>cases g<;>simp only at h<;>(first|(cases h;done)|exact ⟨d,_,i,rfl⟩)
theorem uN {own:FuncId->Bool} {o o':HOper} (h:yT o=true):wW own o' o=false/\wW own o o'=false:=by
 obtain ⟨d,k,i,rfl⟩:=D7 h
 simp [wW,HOp.wrtO,HOp.wrt,HOp.touch]
def iM:List Upd->HV->HV
 | [],v=>v
 | .put _ _::r,v=>iM r v
 | .kill id len::r,v=>iM r (v.kill id len)
theorem DX:∀ (us:List Upd) (S:Lk) (t:Nat),yF S us t=iM us (S t)
 | [],_,_=>rfl
 | .put _ _::r,S,t=>DX r S t
 | .kill id len::r,S,t=>DX r (fun t=>(S t).kill id len) t
theorem Jq (id len:Nat):∀l:List HV,tK id len l=l.map fun v=>v.kill id len
 | []=>rfl
 | v::r=>by rw [tK,Jq id len r];rfl
theorem tH:∀ (us:List Upd) (cs:List HV),iM us (.tup cs)=.tup (cs.map (iM us))
 | [],cs=>by simp [iM]
 | .put _ _::r,cs=>by simp only [iM];exact tH r cs
 | .kill id len::r,cs=>by
  simp only [iM,HV.kill,Jq]
  rw [tH r,kZ]
  rfl
theorem yP:∀ (us:List Upd) (v:HV) {cs:List HV},iM us v=.tup cs->∃cs',v=.tup cs'
 | [],v,cs,h=>⟨cs,h⟩
 | .put _ _::r,v,cs,h=>yP r v h
 | .kill id len::r,v,cs,h=>by
  obtain ⟨cs',h'⟩:=yP r _ h
  cases v<;>simp only [HV.kill] at h'<;>(first|exact ⟨_,rfl⟩|(cases h';done)|(split at h'<;>cases h'))
theorem Aa {d:Option Nat} {k i fr:Nat} {S M:Lk} {e:HV×List Upd} (hs:eH C D all fr ⟨d,.ext (.t k) i,none⟩ S M):iG D all fr ⟨d,.ext (.t k) i,none⟩ S M e <-> ∃cs,S k=.tup cs/\i<cs.length/\e=(cs.getD i .dead,[]):=by
 have hs':(ah M fr (.ext (S k) i)).2.2:=hs
 have hd:iG D all fr ⟨d,.ext (.t k) i,none⟩ S M e <-> e=((ah M fr (.ext (S k) i)).1,(ah M fr (.ext (S k) i)).2.1):=Iff.rfl
 rw [hd]
 cases hk:S k<;>rw [hk] at hs'<;>simp only [ah] at hs' ⊢<;>(first|exact hs'.elim|skip)
 rename_i cs
 constructor
 ·intro h;exact ⟨cs,rfl,hs',h⟩
 ·rintro ⟨cs',h1,h2,h3⟩;cases h1;exact h3
theorem ext_side {d:Option Nat} {k i fr:Nat} {S M:Lk}:eH C D all fr ⟨d,.ext (.t k) i,none⟩ S M <-> ∃cs,S k=.tup cs/\i<cs.length:=by
 have hd:eH C D all fr ⟨d,.ext (.t k) i,none⟩ S M <-> (ah M fr (.ext (S k) i)).2.2:=Iff.rfl
 rw [hd]
 cases hk:S k<;>simp [ah]
theorem RQ:∀ {l:List Nat} {log log':l7} {S M:Lk},dr C D all masks nx K l log S M->(∀q∈log',q∈log\/∃o,all[q.1]?=some o/\yT o=true)->dr C D all masks nx K l log' S M:=by
 intro l
 induction l with
 | nil=>intro log log' S M h _;exact h
 | cons i l ih =>
  intro log log' S M h hl
  obtain ⟨o,ho,hs,he,h⟩:=h
  refine ⟨o,ho,hs,he,fun e hre=>⟨fun q hq=>?_,ih (h e hre).2 ?_⟩⟩
  ·rcases hl q hq with h1|⟨o1,h1,h2⟩
   ·exact (h e hre).1 q h1
   ·intro _ _ o' ho' hsu
    rw [h1] at ho';cases ho'
    rw [(uN h2).2] at hsu;cases hsu
  ·intro q hq
   rcases zl011.1 hq with rfl|hq
   ·exact .inl (by simp)
   ·rcases hl q hq with h|h
    ·exact .inl (yh _ h)
    ·exact .inr h
theorem sD (o:HOper) (e:HV×List Upd) (S:Lk) (t:Nat):nZ o e S t=if o.dst=some t then e.1 else iM e.2 (S t):=by
 unfold nZ;rw [DX]
theorem N9 {i j:Nat} {l:List Nat} {log:l7} {S M:Lk} {oi oj:HOper} (hoi:all[i]?=some oi) (hoj:all[j]?=some oj) (hx:yT oi=true) (hap:zt all oi oj=true) (h:dr C D all masks nx K (i::j::l) log S M):dr C D all masks nx K (j::i::l) log S M:=by
 obtain ⟨oi',hoi',si,⟨ei,ri⟩,hi⟩:=h
 rw [hoi] at hoi';cases hoi'
 have hxx:=hx
 obtain ⟨d,k,n,rfl⟩:=D7 hx
 obtain ⟨ap1,ap2,ap3⟩:=vw hap
 obtain ⟨cs,hk,hn,rfl⟩:=(Aa si).1 ri
 obtain ⟨_,oj',hoj',sj,⟨ej0,rj0⟩,hj⟩:=hi _ ri
 rw [hoj] at hoj';cases hoj'
 have lj:∀t∈looks all oj,S t=nZ ⟨d,.ext (.t k) n,none⟩ (cs.getD n .dead,[]) S t:=fun t ht=>by
  rw [sD,if_neg (fun e=>ap1 t e ht)];rfl
 have aj:oj.op.touch=false\/∀x∈jH oj S,M x=yE (cs.getD n .dead,[]) M x:=.inr fun _ _=>rfl
 have ej:=fun e=>xw (D:=D) (fr:=nx+stride*j) (e:=e) lj aj
 have hkd:∀t,oj.dst=some t->t≠k:=fun t ht e=>ap3 t ht (by subst e;simp [looks,HOp.vals,slotsOf])
 refine ⟨oj,hoj,by rw [uM lj aj];exact sj,⟨ej0,by rw [ej];exact rj0⟩,fun e2 r2=>⟨?_,?_⟩⟩
 ·intro q hq a b o' ho' hs
  have:=(hj e2 (by rw [<- ej];exact r2)).1 q (yh _ hq) a b o' ho' hs
  rw [<- nK lj,<- nM lj] at this
  exact this
 ·have hk2:nZ oj e2 S k=.tup (cs.map (iM e2.2)):=by
   rw [sD,if_neg (fun e=>hkd k e rfl),hk,tH]
  have si2:eH C D all (nx+stride*i) ⟨d,.ext (.t k) n,none⟩ (nZ oj e2 S) (yE e2 M):=ext_side.2 ⟨_,hk2,by simpa using hn⟩
  refine ⟨_,hoi,si2,⟨_,(Aa si2).2 ⟨_,hk2,by simpa using hn,rfl⟩⟩,fun e1 r1=>⟨?_,?_⟩⟩
  ·intro q hq a b o' ho' hs
   rw [(uN hxx).1] at hs;cases hs
  ·obtain ⟨cs2,hk3,hn2,rfl⟩:=(Aa si2).1 r1
   rw [hk2] at hk3;cases hk3
   have hd:=(hj e2 (by rw [<- ej];exact r2)).2
   have eS:nZ oj e2 (nZ ⟨d,.ext (.t k) n,none⟩ (cs.getD n .dead,[]) S)=nZ ⟨d,.ext (.t k) n,none⟩ ((cs.map (iM e2.2)).getD n .dead,[]) (nZ oj e2 S):=by
    funext t
    simp only [sD]
    have hg:(cs.map (iM e2.2)).getD n .dead=iM e2.2 (cs.getD n .dead):=by
     simp only [bf,fZ,bn hn,gV,fV]
    by_cases h1:d=some t
    ·have:¬ oj.dst=some t:=ap2 t h1
     simp only [h1,this,if_true,if_false,hg,iM]
    ·simp only [h1,if_false,iM]
   rw [eS] at hd
   refine RQ hd fun q hq=>?_
   simp only [zl011] at hq
   rcases hq with rfl|rfl|hq
   ·exact .inr ⟨_,hoi,hxx⟩
   ·rw [nK lj,nM lj];exact .inl (Ju ..)
   ·exact .inl (yh _ (yh _ hq))
theorem KA {i j:Nat} {l:List Nat} {log:l7} {S M:Lk} {oi oj:HOper} (hoi:all[i]?=some oi) (hoj:all[j]?=some oj) (hx:yT oi=true) (hap:zt all oi oj=true) (h:dr C D all masks nx K (j::i::l) log S M):dr C D all masks nx K (i::j::l) log S M:=by
 obtain ⟨oj',hoj',sj,⟨ej0,rj0⟩,hj⟩:=h
 rw [hoj] at hoj';cases hoj'
 have hxx:=hx
 obtain ⟨d,k,n,rfl⟩:=D7 hx
 obtain ⟨ap1,ap2,ap3⟩:=vw hap
 have hkd:∀t,oj.dst=some t->t≠k:=fun t ht e=>ap3 t ht (by subst e;simp [looks,HOp.vals,slotsOf])
 have hk2:∀e2,nZ oj e2 S k=iM e2.2 (S k):=fun e2=>by rw [sD,if_neg (fun e=>hkd k e rfl)]
 obtain ⟨_,oi',hoi',si0,_,_⟩:=hj ej0 rj0
 rw [hoi] at hoi';cases hoi'
 obtain ⟨cs0,hk0,hn0⟩:=ext_side.1 si0
 rw [hk2] at hk0
 obtain ⟨cs,hk⟩:=yP _ _ hk0
 rw [hk,tH] at hk0
 cases hk0
 have hn:n<cs.length:=by simpa using hn0
 have si:eH C D all (nx+stride*i) ⟨d,.ext (.t k) n,none⟩ S M:=ext_side.2 ⟨cs,hk,hn⟩
 refine ⟨_,hoi,si,⟨_,(Aa si).2 ⟨cs,hk,hn,rfl⟩⟩,fun e1 r1=>⟨fun q hq a b o' ho' hs=>?_,?_⟩⟩
 ·rw [(uN hxx).1] at hs;cases hs
 ·obtain ⟨cs1,hk1,_,rfl⟩:=(Aa si).1 r1
  rw [hk] at hk1;cases hk1
  have lj:∀t∈looks all oj,S t=nZ ⟨d,.ext (.t k) n,none⟩ (cs.getD n .dead,[]) S t:=fun t ht=>by
   rw [sD,if_neg (fun e=>ap1 t e ht)];rfl
  have aj:oj.op.touch=false\/∀x∈jH oj S,M x=yE (cs.getD n .dead,[]) M x:=.inr fun _ _=>rfl
  have ej:=fun e=>xw (D:=D) (fr:=nx+stride*j) (e:=e) lj aj
  refine ⟨oj,hoj,by rw [<- uM lj aj];exact sj,⟨ej0,by rw [<- ej];exact rj0⟩,fun e2 r2=>⟨?_,?_⟩⟩
  ·intro q hq a b o' ho' hs
   rcases zl011.1 hq with rfl|hq
   ·simp only at ho'
    rw [hoi] at ho';cases ho'
    rw [(uN hxx).2] at hs;cases hs
   ·have:=(hj e2 (by rw [ej];exact r2)).1 q hq a b o' ho' hs
    rw [nK lj,nM lj] at this
    exact this
  ·obtain ⟨_,oi',hoi',si2,_,hi⟩:=hj e2 (by rw [ej];exact r2)
   rw [hoi] at hoi';cases hoi'
   have hk3:nZ oj e2 S k=.tup (cs.map (iM e2.2)):=by rw [hk2,hk,tH]
   have hd:=(hi _ ((Aa si2).2 ⟨_,hk3,by simpa using hn,rfl⟩)).2
   have eS:nZ oj e2 (nZ ⟨d,.ext (.t k) n,none⟩ (cs.getD n .dead,[]) S)=nZ ⟨d,.ext (.t k) n,none⟩ ((cs.map (iM e2.2)).getD n .dead,[]) (nZ oj e2 S):=by
    funext t
    simp only [sD]
    have hg:(cs.map (iM e2.2)).getD n .dead=iM e2.2 (cs.getD n .dead):=by
     simp only [bf,fZ,bn hn,gV,fV]
    by_cases h1:d=some t
    ·have:¬ oj.dst=some t:=ap2 t h1
     simp only [h1,this,if_true,if_false,hg,iM]
    ·simp only [h1,if_false,iM]
   rw [<- eS] at hd
   refine RQ hd fun q hq=>?_
   simp only [zl011] at hq
   rcases hq with rfl|rfl|hq
   ·rw [<- nK lj,<- nM lj];exact .inl (yh _ (Ju ..))
   ·exact .inr ⟨_,hoi,hxx⟩
   ·exact .inl (yh _ (yh _ hq))
theorem Zm {X:Nat->Prop} {i j:Nat} {l:List Nat} {log:l7} {S M:Lk} {oi oj:HOper} (hij:i≠j) (hoi:all[i]?=some oi) (hoj:all[j]?=some oj) (hp:FU all oi oj=true) (hli:rC oi=true) (hlj:rC oj=true)
  (hb1:rq masks i j=false) (hb2:rq masks j i=false) (hI:Inv nx X S M) (hXi:¬ X i) (hXj:¬ X j) (h:dr C D all masks nx K (i::j::l) log S M):dr C D all masks nx K (j::i::l) log S M:=by
 simp only [FU,aZ,Dv,zu] at hp
 obtain ⟨hap,(hx|hx)|⟨hki,hkj⟩⟩:=hp
 ·exact N9 hoi hoj hx hap h
 ·exact KA hoj hoi hx (OB hap) h
 obtain ⟨oi',hoi',si,⟨ei0,ri0⟩,hi⟩:=h
 rw [hoi] at hoi';cases hoi'
 obtain ⟨ap1,ap2,ap3⟩:=vw hap
 have inI:∀x∈jH oi S,vO nx X x:=fun x hx=>innL_iff.1 (Dq hI hli) x hx
 have inJ:∀x∈jH oj S,vO nx X x:=fun x hx=>innL_iff.1 (Dq hI hlj) x hx
 have wt:∀o:HOper,o.op.wrtO D.own=true->o.op.touch=true:=fun o=>by cases o.op<;>simp [HOp.wrtO,HOp.wrt,HOp.touch]
 have lj:∀ei,iG D all (nx+stride*i) oi S M ei->∀t∈looks all oj,S t=nZ oi ei S t:=fun ei re t ht=>by
  obtain ⟨_,_,_,f4⟩:=uP hI hli si re
  unfold nZ
  rw [if_neg (fun e=>ap1 t e ht),l9 (f4 hki)]
 have aj:∀ei,iG D all (nx+stride*i) oi S M ei->oj.op.touch=false\/∀c∈qH oj S,Ff c M (yE ei M):=fun ei re=>by
  obtain ⟨_,_,f3,f4⟩:=uP hI hli si re
  obtain ⟨_,oj',hoj',sj,⟨ej0,rj0⟩,hj⟩:=hi ei re
  rw [hoj] at hoj';cases hoj'
  cases htj:oj.op.touch with
  | false=>exact .inl rfl
  | true =>
   right
   intro c hc
   have hx:=yO hc
   by_cases hxt:c / 2∈iE ei.2
   ·rcases f3 _ hxt with hr|⟨hw,_⟩
    ·exact absurd (uU (inJ _ hx) hr) hXi
    ·have hck:=((hj ej0 rj0).1 _ (Ju ..) hb1 hb2 oi hoi (by simp [wW,hw,htj])).2
     by_cases hcw:c∈vP oi S ei.2
     ·exact absurd (by rw [<- nK (lj ei re)];exact hc) (hck c hcw)
     ·have hodd:c % 2=1:=by
       rcases Nat.mod_two_eq_zero_or_one c with h0|h0
       ·have:=F5 (o:=oi) (S:=S) hxt
        rw [show 2*(c / 2)=c by omega] at this
        exact absurd this hcw
       ·exact h0
      have hd:=RX (o:=oi) (S:=S) hxt (by rw [show 2*(c / 2)+1=c by omega];exact hcw)
      unfold Ff
      rw [if_neg (by omega)]
      exact (NG si re hd (fun e=>hXi (uU (inJ _ hx) (by rw [e];unfold BQ stride;omega)))).symm
   ·exact RF (qi hxt).symm
 obtain ⟨_,oj',hoj',sj,⟨ej0,rj0⟩,hj0⟩:=hi ei0 ri0
 rw [hoj] at hoj';cases hoj'
 have ej:∀ei,iG D all (nx+stride*i) oi S M ei->∀e,iG D all (nx+stride*j) oj S M e=iG D all (nx+stride*j) oj (nZ oi ei S) (yE ei M) e:=fun ei re e=>yX (lj ei re) (aj ei re)
 have sj':eH C D all (nx+stride*j) oj S M:=by rw [Dk (lj ei0 ri0) (aj ei0 ri0)];exact sj
 refine ⟨oj,hoj,sj',⟨ej0,by rw [ej ei0 ri0];exact rj0⟩,fun e2 r2=>⟨?_,?_⟩⟩
 ·intro q hq a b o' ho' hs
  have:=(hj0 e2 (by rw [<- ej ei0 ri0];exact r2)).1 q (yh _ hq) a b o' ho' hs
  rw [<- nK (lj ei0 ri0),<- nM (lj ei0 ri0)] at this
  exact this
 ·obtain ⟨_,_,g3,g4⟩:=uP hI hlj sj' r2
  have li:∀t∈looks all oi,S t=nZ oj e2 S t:=fun t ht=>by
   unfold nZ
   rw [if_neg (fun e=>ap3 t e ht),l9 (g4 hkj)]
  have ai:oi.op.touch=false\/∀c∈qH oi S,Ff c M (yE e2 M):=by
   cases hti:oi.op.touch with
   | false=>exact .inl rfl
   | true =>
    right
    intro c hc
    have hx:=yO hc
    by_cases hxt:c / 2∈iE e2.2
    ·rcases g3 _ hxt with hr|⟨hw,_⟩
     ·exact absurd (uU (inI _ hx) hr) hXj
     ·have hck:=((hj0 e2 (by rw [<- ej ei0 ri0];exact r2)).1 _ (Ju ..) hb1 hb2 oi hoi (by simp [wW,hw,hti])).1
      rw [<- nM (lj ei0 ri0)] at hck
      by_cases hcw:c∈vP oj S e2.2
      ·exact absurd hc (hck c hcw)
      ·have hodd:c % 2=1:=by
        rcases Nat.mod_two_eq_zero_or_one c with h0|h0
        ·have:=F5 (o:=oj) (S:=S) hxt
         rw [show 2*(c / 2)=c by omega] at this
         exact absurd this hcw
        ·exact h0
       have hd:=RX (o:=oj) (S:=S) hxt (by rw [show 2*(c / 2)+1=c by omega];exact hcw)
       unfold Ff
       rw [if_neg (by omega)]
       exact (NG sj' r2 hd (fun e=>hXj (uU (inI _ hx) (by rw [e];unfold BQ stride;omega)))).symm
    ·exact RF (qi hxt).symm
  refine ⟨oi,hoi,by rw [<- Dk li ai];exact si,⟨ei0,by rw [<- yX li ai];exact ri0⟩,fun e1 r1=>?_⟩
  rw [<- yX li ai] at r1
  obtain ⟨c1,oj',hoj',_,_,hj⟩:=hi e1 r1
  rw [hoj] at hoj';cases hoj'
  obtain ⟨d1,d2⟩:=hj e2 (by rw [<- ej e1 r1];exact r2)
  obtain ⟨_,_,f3,f4⟩:=uP hI hli si r1
  have eoi:=nK li
  have eoj:=nK (lj e1 r1)
  have ewi:=nM li e1.2
  have ewj:=nM (lj e1 r1) e2.2
  refine ⟨?_,?_⟩
  ·intro q hq a b o' ho' hs
   rcases zl011.1 hq with rfl|hq
   ·simp only at ho'
    rw [hoj] at ho';cases ho'
    have:=d1 _ (Ju ..) hb1 hb2 oi hoi (by rw [Pz];exact hs)
    simp only [<- eoj,<- ewj] at this
    simp only [<- eoi,<- ewi]
    exact ⟨this.2,this.1⟩
   ·have:=c1 q hq a b o' ho' hs
    rw [eoi,ewi] at this
    exact this
  ·have eS:nZ oj e2 (nZ oi e1 S)=nZ oi e1 (nZ oj e2 S):=by
    funext t
    unfold nZ
    rw [l9 (f4 hki),l9 (g4 hkj),l9 (g4 hkj),l9 (f4 hki)]
    by_cases h1:oi.dst=some t
    ·have:¬ oj.dst=some t:=ap2 t h1
     simp [h1,this]
    ·simp [h1]
   have eM:yE e2 (yE e1 M)=yE e1 (yE e2 M):=by
    funext x
    unfold yE
    by_cases h1:x∈iE e1.2
    ·have h2:x ∉ iE e2.2:=fun h2=>by
      rcases f3 x h1 with a|⟨w1,a⟩<;>rcases g3 x h2 with b|⟨w2,b⟩
      ·exact hij (RU a b)
      ·exact hXi (uU (inJ x b) a)
      ·exact hXj (uU (inI x a) b)
      ·have:=(d1 _ (Ju ..) hb1 hb2 oi hoi (by simp [wW,w1,wt oj w2])).1 (2*x) (F5 h2)
       simp only [Y1 w1] at this
       exact this (AP a)
     rw [qi h2]
     exact Be (.inl h1)
    ·rw [qi h1]
     by_cases h2:x∈iE e2.2
     ·exact Be (.inl h2)
     ·rw [qi h2,qi h1,qi h2]
   rw [<- eS,<- eM]
   refine aa3 d2 fun q hq=>?_
   simp only [<- eoi,<- eoj,<- ewi,<- ewj,zl011] at hq ⊢
   rcases hq with h|h|h
   ·exact .inr (.inl h)
   ·exact .inl h
   ·exact .inr (.inr h)
theorem OG {j:Nat} {oj:HOper} (hoj:all[j]?=some oj) (hlj:rC oj=true):∀ (l1 l2:List Nat) (X:Nat->Prop) (log:l7) (S M:Lk),Inv nx X S M->¬ X j->(∀i∈l1,i≠j/\¬ X i/\∃oi,all[i]?=some oi/\rC oi=true/\FU all oi oj=true/\rq masks i j=false/\rq masks j i=false)->l1.Nodup ->
  dr C D all masks nx K (l1++j::l2) log S M->dr C D all masks nx K (j::(l1++l2)) log S M:=by
 intro l1
 induction l1 with
 | nil=>intro l2 X log S M _ _ _ _ h;exact h
 | cons i l1 ih =>
  intro l2 X log S M hI hXj hl hnd h
  obtain ⟨hij,hXi,oi,hoi,hli,hp,hb1,hb2⟩:=hl i (by simp)
  refine Zm hij hoi hoj hp hli hlj hb1 hb2 hI hXi hXj ?_
  obtain ⟨o,ho,hs,he,h⟩:=h
  rw [hoi] at ho;cases ho
  refine ⟨oi,hoi,hs,he,fun e re=>⟨(h e re).1,?_⟩⟩
  obtain ⟨f1,f2,_,_⟩:=uP hI hli hs re
  rw [zl033] at hnd
  refine ih l2 (fun k=>X k\/k=i) _ _ _ (hI.step f1 f2) (fun hx=>hx.elim hXj fun e=>hij e.symm) (fun k hk=>?_) hnd.2 (h e re).2
  obtain ⟨a,b,c⟩:=hl k (by simp [hk])
  exact ⟨a,fun hx=>hx.elim b fun e=>hnd.1 (e▸hk),c⟩
end
section
variable {E:Fr} {N:Nat} {S M:Lk} {loc:Nat->Value} {fp:Nat->List Nat} {a:Act} {w:World}
theorem OW.inn {F:Nat->Prop} {h:Hp} {R:HV->Value->Prop} {vs rvs fs} (o:OW F h R vs rvs fs) {p:Nat->Prop} (hp:∀v rv id,R v rv->dW v=some id->p id):innL p vs:=by
 induction o with
 | nil=>simp
 | @leaf R v rv r rr fs a b c d e f g _ ih =>
  have ih':=ih hp
  cases v<;>simp [fH] at a b c d e f
  ·simp only [aH,Kt];exact ⟨hp _ _ _ g rfl,ih'⟩
  ·simp only [aH,CB];exact ⟨hp _ _ _ g rfl,ih'⟩
  ·simpa using ih'
  ·simp only [aH,Dj];exact ⟨hp _ _ _ g rfl,ih'⟩
  ·exact absurd rfl (c _ _ _ _ rfl rfl rfl)
 | int _ ih=>simpa using ih hp
 | bool _ ih=>simpa using ih hp
 | str _ ih=>simpa using ih hp
 | nils _ ih=>simpa using ih hp
 | nilp _ ih=>simpa using ih hp
 | nilf _ ih=>simpa using ih hp
 | dead _ ih=>simpa using ih hp
 | sl0 _ ih=>simpa using ih hp
 | sl a b c d _ _ ih1 ih2=>simp only [aH,XJ];exact ⟨ih1 fun _ _ _ h=>h.elim,ih2 hp⟩
 | osl0 _ ih=>simpa using ih hp
 | osl a b c d e f _ _ ih1 ih2=>simp only [aH,Au];exact ⟨ih1 fun _ _ _ h=>h.elim,ih2 hp⟩
 | ptr a b c _ _ ih1 ih2=>simp only [aH,FM];exact ⟨ih1 fun _ _ _ h=>h.elim,ih2 hp⟩
 | optr a _ _ ih1 ih2=>simp only [aH,Oa];exact ⟨ih1 fun _ _ _ h=>h.elim,ih2 hp⟩
 | nilm _ ih=>simpa using ih hp
 | rmap a b c _ _ ih1 ih2=>simp only [aH,Gz];exact ⟨ih1 fun _ _ _ h=>h.elim,ih2 hp⟩
 | omap a b _ _ ih1 ih2=>simp only [aH,vT];exact ⟨ih1 fun _ _ _ h=>h.elim,ih2 hp⟩
 | oitr _ _ ih=>simpa using ih hp
 | agg _ _ ih1 ih2=>simp only [aH,uY];exact ⟨ih1 hp,ih2 hp⟩
 | tup _ _ ih1 ih2=>simp only [aH,zV];exact ⟨ih1 hp,ih2 hp⟩
 | fn _ _ ih1 ih2=>simp only [aH,DF];exact ⟨ih1 hp,ih2 hp⟩
theorem OW.rn {F:Nat->Prop} {h:Hp} {R R':HV->Value->Prop} {vs rvs fs} (g:Nat->Nat) (o:OW F h R vs rvs fs) (hfs:fs=[]) (hl:∀v rv,R v rv->∃id,dW v=some id) (hr:∀v rv,R v rv->R' (v.rn g) rv):OW F h R' (YZ g vs) rvs []:=by
 induction o with
 | nil=>exact .nil
 | @leaf R v rv r rr fs a b c d e f gg _ ih =>
  have ih':=ih hfs hl hr
  obtain ⟨id,hid⟩:=hl _ _ gg
  have h1:=hr _ _ gg
  have:(dW (v.rn g)).isSome=true:=by cases v<;>simp [dW] at hid<;>simp [HV.rn,dW]
  exact (dE this h1).cons1 ih'
 | int _ ih=>exact .int (ih hfs hl hr)
 | bool _ ih=>exact .bool (ih hfs hl hr)
 | str _ ih=>exact .str (ih hfs hl hr)
 | nils _ ih=>exact .nils (ih hfs hl hr)
 | nilp _ ih=>exact .nilp (ih hfs hl hr)
 | nilf _ ih=>exact .nilf (ih hfs hl hr)
 | dead _ ih=>exact .dead (ih hfs hl hr)
 | sl0 _ ih=>exact .sl0 (ih hfs hl hr)
 | sl a b c d e _ _ ih=>exact .sl a b c d e (ih hfs hl hr)
 | osl0 _ ih=>exact .osl0 (ih hfs hl hr)
 | osl=>simp at hfs
 | ptr a b c d _ _ ih=>exact .ptr a b c d (ih hfs hl hr)
 | optr=>simp at hfs
 | nilm _ ih=>exact .nilm (ih hfs hl hr)
 | rmap a b c d _ _ ih=>exact .rmap a b c d (ih hfs hl hr)
 | omap=>simp at hfs
 | oitr=>simp at hfs
 | agg _ _ ih1 ih2 =>
  obtain ⟨rfl,rfl⟩:_=[]/\_=[]:=by simpa using hfs
  exact .agg (ih1 rfl hl hr) (ih2 rfl hl hr)
 | tup _ _ ih1 ih2 =>
  obtain ⟨rfl,rfl⟩:_=[]/\_=[]:=by simpa using hfs
  exact .tup (ih1 rfl hl hr) (ih2 rfl hl hr)
 | fn _ _ ih1 ih2 =>
  obtain ⟨rfl,rfl⟩:_=[]/\_=[]:=by simpa using hfs
  exact .fn (ih1 rfl hl hr) (ih2 rfl hl hr)
theorem Rel.rename (hr:Rel E N S M loc fp a w) (g:Nat->Nat) (hg:∀x,g (g x)=x) (hN:∀x,x<N->g x<N):Rel E N (fun t=>(S t).rn g) (fun k=>M (g k)) (fun k=>loc (g k)) (fun k=>fp (g k)) a w:=by
 have inj:∀x y,g x=g y->x=y:=fun x y h=>by rw [<- hg x,<- hg y,h]
 have hfz:∀b,frz E fp w b->frz E (fun k=>fp (g k)) w b:=fun b ⟨h1,h2,h3⟩=>⟨h1,h2,fun k=>h3 (g k)⟩
 refine ⟨hr.below,hr.base,hr.size,fun id h=>(hr.tree (g id) h).stable (fun _ _=>rfl) (fun b hb=>⟨hfz b hb,rfl⟩) (fun _ _ h=>h),fun id h=>hr.gone (g id) h,fun id h=>hr.new (g id) ?_,fun id=>hr.nodup (g id),fun i j hij=>hr.apart (g i) (g j) (fun e=>hij (inj _ _ e)),fun id=>hr.fresh (g id),fun t=>?_,hr.defers⟩
 ·rcases dX (g id) N with h'|h'
  ·have:=hN _ h'
   rw [hg] at this
   omega
  ·exact h'
 ·have:=(hr.slots t).rn (R':=RefR N (fun k=>M (g k)) (fun k=>loc (g k)) w.heap) g rfl (fun v rv h=>by obtain ⟨id,h1,_⟩:=h.isRef;exact ⟨id,h1⟩) (by
   intro v rv hv
   cases v<;>(try exact hv.elim)
   ·obtain ⟨a1,a2,a3,a4,a5⟩:=hv
    exact ⟨hN _ a1,a2,a3,by simp only [hg];exact a4,by simp only [hg];exact a5⟩
   ·obtain ⟨a1,a2,a3,a4⟩:=hv
    exact ⟨hN _ a1,a2,a3,by simp only [hg];exact a4⟩
   ·obtain ⟨a1,a2,a3,a4,a5⟩:=hv
    exact ⟨hN _ a1,a2,a3,by simp only [hg];exact a4,by simp only [hg];exact a5⟩)
  exact this.stable (by simp) (fun b hb=>⟨hfz b hb,rfl⟩) (fun _ _ h=>h)
def Yh (N0 f m x:Nat):Nat:=if N0<=x/\x<N0+m then x - N0+f else if f<=x/\x<f+m then x - f+N0 else x
theorem Z7 {N0 f m:Nat} (h:f+m<=N0) (x:Nat):Yh N0 f m (Yh N0 f m x)=x:=by
 unfold Yh
 by_cases h1:N0<=x/\x<N0+m
 ·rw [if_pos h1,if_neg (by omega),if_pos (by omega)];omega
 ·rw [if_neg h1]
  by_cases h2:f<=x/\x<f+m
  ·rw [if_pos h2,if_pos (by omega)];omega
  ·rw [if_neg h2,if_neg h1,if_neg h2]
theorem abn {N0 f m:Nat} (h:f+m<=N0) (x:Nat) (hx:x<N0+m):Yh N0 f m x<N0+m:=by
 unfold Yh;split
 ·omega
 ·split<;>omega
theorem ab9 {g:Nat->Nat} (hg:∀x,g (g x)=x):∀ (us:List Upd) (A B:Lk),(∀k,A (g k)=B k)->∀k,Lk.upd A us (g k)=Lk.upd B (us.map (LD g)) k:=by
 intro us
 induction us with
 | nil=>intro A B h k;exact h k
 | cons u us ih =>
  intro A B h k
  cases u with
  | put id t =>
   simp only [dP,LD,Lk.upd]
   refine ih _ _ (fun k=>?_) k
   by_cases hk:g k=id
   ·have:k=g id:=by rw [<- hk,hg]
    rw [if_pos hk,if_pos this]
   ·have:¬ k=g id:=fun e=>hk (by rw [e,hg])
    rw [if_neg hk,if_neg this]
    exact h k
  | kill id n=>exact ih A B h k
theorem aam {g:Nat->Nat} (hg:∀x,g (g x)=x) {us:List Upd} (hu:∀x∈iE us,g x=x) (hM:∀k,g k≠k->M k=.dead) (k:Nat):Lk.upd M us (g k)=Lk.upd M us k:=by
 by_cases hk:g k=k
 ·rw [hk]
 ·rw [qi fun h=>hk (hu k h),qi fun h=>by have:=hu _ h;rw [hg] at this;exact hk this.symm,hM k hk,hM (g k) (by rw [hg];exact fun e=>hk e.symm)]
end
theorem HT.deep {P:Program} {f:FuncId} {args:List HV} {K:HV->Prop} (h:HT P f args K):HT P f args fun r=>K r/\r.deep=[] :=
 ⟨h.1,fun w rargs F hF hargs=>(h.2 w rargs F hF hargs).mono fun _ _ ⟨rv,res,fs,h1,h2,h3,h4⟩=>⟨rv,res,fs,h1,⟨h2,by
  have:=h3.inn (p:=fun _=>False) (fun _ _ _ h=>h.elim)
  simp only [aH,LM,and_true] at this
  exact zl036.2 fun x hx=>this x hx⟩,h3,h4⟩⟩
theorem HT.imp {P:Program} {f:FuncId} {args:List HV} {K K':HV->Prop} (h:HT P f args K) (hk:∀r,K r->K' r):HT P f args K' :=
 ⟨h.1,fun w rargs F hF hargs=>(h.2 w rargs F hF hargs).mono fun _ _ ⟨rv,res,fs,h1,h2,h3⟩=>⟨rv,res,fs,h1,hk _ h2,h3⟩⟩
def HT2 (P:Program):CF:=⟨fun f args K=>HT P f args K,fun f args K=>HTM P f args K⟩
theorem HTM.deep {P:Program} {f:FuncId} {args:List HV} {K:HV->Prop} (h:HTM P f args K):HTM P f args fun r=>K r/\r.deep=[] :=
 ⟨h.1,fun w rargs F fa h1 h2 h3 h4=>(h.2 w rargs F fa h1 h2 h3 h4).mono fun e w' ⟨rv,res,outs,fs,a,b,c,d⟩=>⟨rv,res,outs,fs,a,⟨b,by
  have:=c.inn (p:=fun _=>False) (fun _ _ _ h=>h.elim)
  simp only [aH] at this
  exact zl036.2 fun x hx=>this.1 x hx⟩,c,d⟩⟩
section
variable {P:Program} {E:Fr} {N:Nat} {S M:Lk} {loc:Nat->Value} {fp:Nat->List Nat} {a:Act} {w:World} {D:DS} {nx i:Nat}
theorem aby {g:Nat->Nat} (hg:∀x,g (g x)=x) (hN:∀x,x<N->g x<N) {o:HOper} {us0 uF:List Upd} {v:HV} (hr:Rel E N (fun t=>if o.dst=some t then v else yF S (us0++uF) t) (Lk.upd M (us0++uF)) loc fp a w)
  (hS:∀t,(S t).inn fun x=>g x=x) (hM:∀k,g k≠k->M k=.dead) (hu:∀x∈iE us0,g x=x) (hF:∀u∈uF,∃id t,u=.put id t) :
  ∃N' loc' fp',Rel E N' (nZ o (v.rn g,us0++uF.map (LD g)) S) (yE (v.rn g,us0++uF.map (LD g)) M) loc' fp' a w:=by
 have h:=hr.rename g hg hN
 refine ⟨N,fun k=>loc (g k),fun k=>fp (g k),?_⟩
 have e1:(fun t=>(if o.dst=some t then v else yF S (us0++uF) t).rn g)=nZ o (v.rn g,us0++uF.map (LD g)) S:=by
  funext t
  unfold nZ
  have hF':∀u∈uF.map (LD g),∃id t,u=.put id t:=fun u hu=>by
   obtain ⟨u',h1,rfl⟩:=zl020.1 hu
   obtain ⟨id,t,rfl⟩:=hF u' h1
   exact ⟨_,_,rfl⟩
  by_cases hd:o.dst=some t
  ·simp only [hd,if_true]
  ·simp only [hd,if_false]
   rw [gQ,gQ,l9 hF,l9 hF']
   exact HV.rn_id g _ (Rj hS t)
 have e2:(fun k=>Lk.upd M (us0++uF) (g k))=yE (v.rn g,us0++uF.map (LD g)) M:=by
  funext k
  unfold yE
  rw [eU,eU]
  exact ab9 hg uF _ _ (fun k=>aam hg hu hM k) k
 rw [<- e1,<- e2]
 exact h
theorem Jl {ops:Array Oper} {o:Oper} (ho:ops[i]?=some o) {X:Nat->Prop} (hr:Rel E N S M loc fp a w) (hI:Inv nx X S M) (hX:¬ X i) (hl:rC (aJ P E.ok o)=true)
  (hs:eH (HT2 P) D (ops.toList.map (aJ P E.ok)) (nx+stride*i) (aJ P E.ok o) S M) {Kw:Act->World->Prop} {Q:Exit->Act->World->Prop}
  (hn:∀e a' w',iG D (ops.toList.map (aJ P E.ok)) (nx+stride*i) (aJ P E.ok o) S M e->(∃N' loc' fp',Rel E N' (nZ (aJ P E.ok o) e S) (yE e M) loc' fp' a' w')->Kw a' w'):wpOp P ops Q i Kw a w:=by
 have hgd:(aJ P E.ok o).guard=o.guard:=rfl
 have hdst:(aJ P E.ok o).dst=o.dst:=rfl
 have bool:∀ {d:Nat} {b:Bool},S d=.bool b->a.tmps[d]?=some (.bool b):=fun {d b} hb=>by
  have h1:=hr.slots d
  rw [hb] at h1
  have h3:=of_bool h1
  cases h4:a.tmps[d]? with
  | none=>rw [jC,h4] at h3;simp [undef] at h3
  | some v=>rw [jC,h4] at h3;simpa using h3
 have hw:∀b,gd (ops.toList.map (aJ P E.ok)) (aJ P E.ok o) S=some b->Region.wanted o (yielded ops a.tmps)=b:=by
  intro b hb
  unfold gd at hb
  rw [hgd] at hb
  unfold Region.wanted
  cases hg:o.guard with
  | none=>rw [hg] at hb;simpa using hb
  | some jw =>
   obtain ⟨j,want⟩:=jw
   rw [hg] at hb
   simp only [fZ,Option.bind_map] at hb
   have hall:((ops.toList[j]?).bind ((fun x=>x.dst) ∘ aJ P E.ok))=((ops[j]?).bind (·.dst)):=by rw [oZ];rfl
   rw [hall] at hb
   cases hd:(ops[j]?).bind (·.dst) with
   | none=>rw [hd] at hb;simp at hb
   | some d =>
    rw [hd] at hb
    simp only [gV] at hb
    generalize hv:S d=v at hb
    cases v with
    | bool c =>
     simp only at hb
     have hy:yielded ops a.tmps j=some c:=by
      unfold yielded
      rw [hd]
      simp only [IW,bool hv]
     simp only [hy]
     cases c<;>cases want<;>cases b<;>simp_all
    | tup cs =>
     cases cs with
     | cons _ _=>simp at hb
     | nil =>
      simp only [bT] at hb
      subst hb
      have hy:yielded ops a.tmps j=none:=by
       have h1:=hr.slots d
       rw [hv] at h1
       have h3:=Np h1
       unfold yielded
       rw [hd]
       simp only [IW]
       cases h4:a.tmps[d]? with
       | none=>rfl
       | some v=>rw [jC,h4] at h3;simp at h3;rw [h3];rfl
      simp [hy]
    | _=>simp at hb
 unfold eH at hs
 unfold wpOp
 rw [ho]
 simp only
 cases hgv:gd (ops.toList.map (aJ P E.ok)) (aJ P E.ok o) S with
 | none=>rw [hgv] at hs;exact hs.elim
 | some b =>
  rw [hgv] at hs
  rw [hw b hgv]
  cases b with
  | false =>
   simp only [Bool.false_eq_true,if_false]
   exact hn (.tup [],[]) _ _ (by unfold iG;rw [hgv]) ⟨N,loc,fp,hr.putU o.dst⟩
  | true =>
   simp only [if_true]
   simp only at hs
   left
   let N0:=max N (nx+stride*(i+1))
   let f:=nx+stride*i
   have hf0:f+stride<=N0:=by simp only [f,N0,stride];omega
   have hNN:N<=N0:=by simp only [N0];omega
   let g:=Yh N0 f stride
   have hg:∀x,g (g x)=x:=Z7 hf0
   have hgN:∀x,x<N0+stride->g x<N0+stride:=abn hf0
   have gid:∀x,x<N0->¬ BQ nx i x->g x=x:=fun x h1 h2=>by
    simp only [g,Yh]
    rw [if_neg (by omega),if_neg (fun h=>h2 ⟨h.1,by simp only [f,stride] at *;omega⟩)]
   have hS:∀t,(S t).inn fun x=>g x=x:=fun t x hx=>by
    have h1:=(hr.slots t).inn (p:=fun x=>x<N) (fun v rv id h hid=>by cases v<;>simp only [dW,bT,reduceCtorEq] at hid<;>subst hid<;>exact h.1)
    simp only [aH] at h1
    exact gid x (lI (h1.1 x hx) hNN) fun hr'=>hX (uU (hI.slots t x hx) hr')
   have hM:∀k,g k≠k->M k=.dead:=fun k hk=>by
    rcases dX k N with h|h
    ·by_cases h2:BQ nx i k
     ·cases hd:M k with
      | dead=>rfl
      | _=>exact absurd (uU (hI.alive k (by rw [hd];simp)) h2) hX
     ·exact absurd (gid k (by omega) h2) hk
    ·exact hr.new k h
   have hMi:∀id,(M id).inn fun x=>g x=x:=fun id=>by
    by_cases h:M id=.dead
    ·rw [h];simp
    ·have:=(hr.tree id h).inn (p:=fun x=>g x=x) (fun _ _ _ h=>h.elim)
     simpa using this
   have hvals:innL (fun x=>g x=x) ((aJ P E.ok o).op.map (bU S)).vals:=by
    rw [HOp.vals_map]
    intro v hv
    obtain ⟨x,hx,rfl⟩:=zl020.1 hv
    cases x with
    | t i=>exact hS i
    | c v =>
     simp only [rC,aZ,zl016] at hl
     have:=hl.2 _ hx
     simp only [EZ] at this
     intro y hy
     simp only [bU,this] at hy
     cases hy
   have hlits:innL (fun x=>g x=x) ((aJ P E.ok o).op.map (bU S)).lits:=by
    rw [HOp.lits_map,innL_iff]
    simp only [rC,aZ,EZ] at hl
    rw [hl.1]
    simp
   have hres:∀e,nY D M f e ((aJ P E.ok o).op.map (bU S))->iG D (ops.toList.map (aJ P E.ok)) f (aJ P E.ok o) S M e:=fun e h=>by unfold iG;rw [hgv];exact h
   by_cases hd:(o.dst.all fun d=>E.ok d)=true
   case neg =>
    have hop0:(aJ P E.ok o).op=.bad:=by simp only [aJ,hd];rfl
    rw [hop0] at hs
    exact hs.elim
   have hop0:(aJ P E.ok o).op=aN P o:=by simp only [aJ,hd,if_true]
   have hdt:∀t,o.dst=some t->E.ok t=true:=fun t ht=>by simpa [ht] using hd
   rw [hop0] at hs hvals hlits hres
   have done:∀ {us0 uF:List Upd} {v:HV} {rv:Value} {w':World} {N1:Nat},N1<=N0+stride->After E N1 S M (us0++uF) v rv a w'->(∀x∈iE us0,g x=x)->(∀u∈uF,∃id t,u=.put id t)->nY D M f (v.rn g,us0++uF.map (LD g)) ((aN P o).map (bU S))->Kw (a.put o.dst rv) w':=by
    intro us0 uF v rv w' N1 hN1 hA h1 h2 h3
    obtain ⟨loc',fp',h4,h5⟩:=hA
    have h6:=(h4.put o.dst hdt h5).up hN1
    exact hn _ _ _ (hres _ h3) (aby (o:=aJ P E.ok o) hg hgN h6 hS hM h1 h2)
   have plain:(aN P o).isCall=false->(ah M f ((aN P o).map (bU S))).2.2->(∀e,nY D M f e ((aN P o).map (bU S)) <-> e=((ah M f ((aN P o).map (bU S))).1,(ah M f ((aN P o).map (bU S))).2.1))->o.wp P a w Kw Q:=by
    intro hnc hvc hce
    obtain ⟨us0,a1,a2,a3,a4⟩:=Ib (L:=M) (D:=aQ ((aN P o).map (bU S)).vals) hvals (fun x hx=>hx) hlits hMi
    have ht:∀x∈iE us0,g x=x:=by
     intro x hx
     clear a2 a3 a4
     induction us0 with
     | nil=>cases hx
     | cons u us ih =>
      have ih:=ih (fun u hu=>a1 u (by simp [hu]))
      cases u with
      | put id t =>
       simp only [iE,zl011] at hx
       rcases hx with rfl|hx
       ·exact innL_iff.1 hvals _ (a1 (.put x t) (by simp)).1
       ·exact ih hx
      | kill=>exact ih hx
    have key:∃v uF,(ah M N0 ((aN P o).map (bU S))).1=v/\(ah M N0 ((aN P o).map (bU S))).2.1=us0++uF/\(ah M N0 ((aN P o).map (bU S))).2.2/\(∀u∈uF,∃id t,u=.put id t)/\nY D M f (v.rn g,us0++uF.map (LD g)) ((aN P o).map (bU S)):=by
     have gN:g N0=f:=by simp only [g,Yh,stride];rw [if_pos (by omega)];omega
     rcases a4 with ⟨v,q,h1,h2⟩|⟨mk,T,q,h0,h1,h2⟩
     ·rw [h2] at hvc
      refine ⟨v,[],by rw [h2],by rw [h2];simp,by rw [h2];exact hvc,by simp,(hce _).2 ?_⟩
      rw [h2,HV.rn_id g v h1];simp
     ·rw [h2] at hvc
      refine ⟨mk N0,[.put N0 T],by rw [h2],by rw [h2],by rw [h2];exact hvc,by simp,(hce _).2 ?_⟩
      rw [h2]
      rcases h0 with ⟨sz,n,rfl⟩|rfl|rfl
      ·simp [HV.rn,LD,gN]
      ·simp [HV.rn,LD,gN]
      ·simp [HV.rn,LD,gN]
    obtain ⟨v,uF,k1,k2,k3,k4,k5⟩:=key
    obtain ⟨rv,w',h1,h2⟩:=Nq hr hNN o hnc k3
    rw [k1,k2] at h2
    have:=done (by unfold stride;omega) h2 ht k4 k5
    unfold Oper.wp
    rcases h1 with h1|⟨h1,rfl⟩
    ·rw [h1];exact this
    ·rw [h1];exact this
   have callgen:∀ (fn:FuncId) (vs:List HV) (rvs:List Value),(execOp a.eval o).run P w=(callFunc fn rvs.toArray).run P w->OW (frz E fp w) w.heap (RefR N M loc w.heap) vs rvs [] ->
     (HT P fn (cZ bM M vs) (D.rel fn (cZ bM M vs))/\∀r,D.rel fn (cZ bM M vs) r->r.deep=[]->(aO vs || r.noRd)=true/\(unpack f r).2.2<=f+stride) ->
     (∀r,D.rel fn (cZ bM M vs) r->r.deep=[]->nY D M f ((unpack f r).1,(unpack f r).2.1) ((aN P o).map (bU S)))->o.wp P a w Kw Q:=by
    intro fn vs rvs hrun hv hC hce
    unfold Oper.wp
    rw [hrun,rO hC.1.1,Oper.upon_enter]
    have hC':=(hC.1.deep).imp (K':=fun r=>(aO vs || r.noRd)=true/\(D.rel fn (cZ bM M vs) r/\r.deep=[])) fun r hr'=>⟨(hC.2 r hr'.1 hr'.2).1,hr'⟩
    refine (Gn hr hNN hv hC').mono ?_
    rintro e w' ⟨rv,res,rfl,⟨hK,hdp⟩,_,hA⟩
    obtain ⟨u1,u2,u3,u4,u5⟩:=wJ g res N0 f hdp
    have hb:=(hC.2 res hK hdp).2
    obtain ⟨e1,e2⟩:=u3 fun k h1 h2=>by simp only [g,Yh];rw [if_pos (by omega)]
    refine done (us0:=[]) (by omega) hA (by simp [iE]) (fun u hu=>by obtain ⟨id,t,rfl,_⟩:=u5 u hu;exact ⟨_,_,rfl⟩) ?_
    have:=hce res hK hdp
    rw [e1,e2] at this
    exact this
   cases hop':aN P o with
   | call fn xs =>
    rw [hop'] at hs
    simp only [HOp.map] at hs
    obtain ⟨c,hc,hcal,rfl⟩:=Ec hop'
    have e1:(#[]:Array Value)++c.args.map a.eval++#[]=(c.args.toList.map a.eval).toArray:=by apply CZ;simp
    have e2:a.eval (.func fn)=.func (.func fn) #[] #[]:=rfl
    have hrun:(execOp a.eval o).run P w=(callFunc fn (c.args.toList.map a.eval).toArray).run P w:=by
     simp only [execOp,hc,resolve,hcal,e2,Deferred.ofValue,Sem.run_bind,Sem.run_pure,Result.andThen_ok,invoke,e1]
    simp only [kT] at hs
    by_cases hown:D.own fn=true
    ·rw [if_pos hown] at hs
     rw [kZ] at hs
     have hs':(aB M (c.args.toList.map fun x=>bU S (dO x))).2.2/\HTM P fn (aB M (c.args.toList.map fun x=>bU S (dO x))).1 (D.rel fn (aB M (c.args.toList.map fun x=>bU S (dO x))).1)/\∀r,D.rel fn (aB M (c.args.toList.map fun x=>bU S (dO x))).1 r->r.deep=[]->(unpack f r).2.2<=f+stride:=hs
     have hvals':innL (fun x=>g x=x) (c.args.toList.map fun x=>bU S (dO x)):=by
      have:=hvals
      rw [hop'] at this
      simp only [HOp.map,HOp.vals,kZ] at this
      exact this
     have hce:∀r,D.rel fn (aB M (c.args.toList.map fun x=>bU S (dO x))).1 r->r.deep=[]->nY D M f ((unpack f r).1,(aB M (c.args.toList.map fun x=>bU S (dO x))).2.1++(unpack f r).2.1) ((aN P o).map (bU S)):=fun r h1 h2=>by
      rw [hop']
      simp only [HOp.map,nY]
      rw [if_pos hown,kZ]
      exact ⟨r,h1,h2,rfl⟩
     have hv:=hr.vals c.args.toList
     generalize hvs:(c.args.toList.map fun x=>bU S (dO x))=vs at hs' hvals' hce hv
     obtain ⟨_,a2⟩:=sG (D:=aQ vs) M vs hvals' (fun x hx=>hx) hMi
     have ht:∀x∈iE (aB M vs).2.1,g x=x:=by
      intro x hx
      generalize (aB M vs).2.1=us0 at a2 hx
      induction us0 with
      | nil=>cases hx
      | cons u us ih =>
       have ih:=ih (fun u hu=>a2 u (by simp [hu]))
       cases u with
       | put id t =>
        simp only [iE,zl011] at hx
        rcases hx with rfl|hx
        ·exact innL_iff.1 hvals' _ (a2 (.put x t) (by simp)).1
        ·exact ih hx
       | kill=>exact ih hx
     unfold Oper.wp
     rw [hrun,rO hs'.2.1.1,Oper.upon_enter]
     refine (EU hr hNN hv hs'.1 (io:=[]) (ids:=[]) rfl List.nodup_nil (HTM.deep hs'.2.1)).mono ?_
     rintro e w' ⟨rv,res,outs,rfl,⟨hK,hdp⟩,hlo,_,hA⟩
     obtain rfl:outs=[]:=gI hlo
     simp only [kills,nJ,uG,List.zip_nil_left,List.append_nil] at hA
     obtain ⟨u1,u2,u3,u4,u5⟩:=wJ g res N0 f hdp
     have hb:=hs'.2.2 res hK hdp
     obtain ⟨e1,e2⟩:=u3 fun k h1 h2=>by simp only [g,Yh];rw [if_pos (by omega)]
     refine done (us0:=(aB M vs).2.1) (by omega) hA ht (fun u hu=>by obtain ⟨id,t,rfl,_⟩:=u5 u hu;exact ⟨_,_,rfl⟩) ?_
     have:=hce res hK hdp
     rw [e1,e2] at this
     exact this
    ·rw [if_neg hown] at hs
     refine callgen fn (c.args.toList.map fun x=>bU S (dO x)) (c.args.toList.map a.eval) hrun (hr.vals _) (by rw [kZ] at hs;exact hs) (fun r h1 h2=>?_)
     rw [hop']
     simp only [HOp.map,nY]
     rw [if_neg hown]
     exact ⟨r,by rw [kZ];exact h1,h2,rfl⟩
   | callv x xs =>
    rw [hop'] at hs
    simp only [HOp.map] at hs
    obtain ⟨c,t,hc,hcal,rfl,rfl⟩:=BF hop'
    have hval:=hr.val (.tmp t)
    simp only [dO] at hval
    rw [hop'] at callgen
    simp only [HOp.map] at callgen
    generalize bU S (.t t)=fv at *
    cases fv<;>simp only [kT,ah] at hs<;>(first|exact hs.elim|skip)
    rename_i fn cap
    obtain ⟨rcap,hfe,hcap⟩:=I8 hval
    have hv:=(hr.vals c.args.toList).append hcap
    simp only [List.append_nil] at hv
    refine callgen fn (c.args.toList.map (fun x=>bU S (dO x))++cap) (c.args.toList.map a.eval++rcap) ?_ hv (by rw [kZ] at hs;exact hs) (fun r h1 h2=>?_)
    ·have e1:(#[]:Array Value)++c.args.map a.eval++rcap.toArray=(c.args.toList.map a.eval++rcap).toArray:=by apply CZ;simp
     simp only [execOp,hc,resolve,hcal,hfe,Deferred.ofValue,Sem.run_bind,Sem.run_pure,Result.andThen_ok,invoke,e1]
    ·exact ⟨r,by rw [kZ];exact h1,h2,rfl⟩
   | _ =>
    rw [hop'] at hs
    rw [hop'] at plain
    exact plain rfl hs (fun e=>Iff.rfl)
end
def AY (ms:List Nat):List Edge->Nat
 | []=>0
 | e::r=>(if Region.binds .any e then 2 ^ e.on ||| ms.getD e.on 0 else 0) ||| AY ms r
def su:List Oper->List Nat->List Nat
 | [],ms=>ms
 | o::r,ms=>su r (ms++[AY ms o.after.toList])
def dD (ops:Array Oper):List Nat:=su ops.toList []
theorem EH:∀ (r:List Oper) (ms:List Nat),∃t,su r ms=ms++t:=by
 intro r
 induction r with
 | nil=>intro ms;exact ⟨[],by simp [su]⟩
 | cons o r ih =>
  intro ms
  obtain ⟨t,h⟩:=ih (ms++[AY ms o.after.toList])
  exact ⟨AY ms o.after.toList::t,by rw [su,h];simp⟩
theorem FT:∀ (r:List Oper) (ms:List Nat) (i:Nat) (o:Oper),r[i]?=some o->∃ms',(∃t,su r ms=ms'++t)/\ms'.length=ms.length+i/\(su r ms).getD (ms.length+i) 0=AY ms' o.after.toList:=by
 intro r
 induction r with
 | nil=>intro ms i o h;simp at h
 | cons q r ih =>
  intro ms i o h
  cases i with
  | zero =>
   simp at h
   subst h
   obtain ⟨t,ht⟩:=EH r (ms++[AY ms q.after.toList])
   refine ⟨ms,EH _ _,rfl,?_⟩
   rw [su,ht]
   simp [List.getD]
  | succ i =>
   simp only [List.getElem?_cons_succ] at h
   obtain ⟨ms',h1,h2,h3⟩:=ih (ms++[AY ms q.after.toList]) i o h
   refine ⟨ms',h1,by rw [h2];simp;omega,?_⟩
   rw [su,<- h3]
   congr 1
   simp;omega
theorem JG (ms:List Nat):∀ (l:List Edge) (k:Nat),(AY ms l).testBit k=true <-> ∃e∈l,Region.binds .any e=true/\(e.on=k\/(ms.getD e.on 0).testBit k=true):=by
 intro l
 induction l with
 | nil=>intro k;simp [AY]
 | cons e r ih =>
  intro k
  simp only [AY,Nat.testBit_or,Dv,ih,zl011,exists_eq_or_imp]
  cases hb:Region.binds .any e with
  | false=>simp
  | true=>simp [Nat.testBit_or,Nat.testBit_two_pow]
theorem D6 {ops:Array Oper} {i:Nat} {o:Oper} (ho:ops[i]?=some o) {e:Edge} (he:e∈o.after) (hb:Region.binds .any e=true):rq (dD ops) e.on i=true:=by
 obtain ⟨ms',_,_,h⟩:=FT ops.toList [] i o (by simpa using ho)
 unfold rq dD
 simp only [List.length_nil,Nat.zero_add] at h
 rw [h,JG]
 exact ⟨e,by simpa using he,hb,.inl rfl⟩
theorem kY {ops:Array Oper} {i k:Nat} {o:Oper} (ho:ops[i]?=some o) (h:rq (dD ops) k i=true):∃e∈o.after,Region.binds .any e=true/\(e.on=k\/rq (dD ops) k e.on=true):=by
 obtain ⟨ms',⟨t,h1⟩,h2,h3⟩:=FT ops.toList [] i o (by simpa using ho)
 unfold rq dD at *
 simp only [List.length_nil,Nat.zero_add] at h3 h2
 rw [h3,JG] at h
 obtain ⟨e,he,hb,h⟩:=h
 refine ⟨e,by simpa using he,hb,h.imp id fun h=>?_⟩
 rw [h1]
 have:(ms'.getD e.on 0)=((ms'++t).getD e.on 0):=by
  rcases dX e.on ms'.length with hl|hl
  ·simp [List.getD,En hl]
  ·simp [List.getD,qo hl] at h
 rw [<- this];exact h
section
variable {E:Fr} {N:Nat} {S M:Lk} {loc:Nat->Value} {fp:Nat->List Nat} {a:Act} {w:World}
theorem OW.lower {F:Nat->Prop} {h:Hp} {R R':HV->Value->Prop} {vs rvs fs} (o:OW F h R vs rvs fs) {p:Nat->Prop} (hfs:fs=[]) (hp:innL p vs) (hl:∀v rv,R v rv->∃id,dW v=some id) (hr:∀v rv id,R v rv->dW v=some id->p id->R' v rv):OW F h R' vs rvs []:=by
 induction o with
 | nil=>exact .nil
 | @leaf R v rv r rr fs a b c d e f gg _ ih =>
  simp only [aH] at hp
  have ih':=ih hfs hp.2 hl hr
  obtain ⟨id,hid⟩:=hl _ _ gg
  have:(dW v).isSome=true:=by rw [hid];rfl
  refine (dE this (hr _ _ id gg hid ?_)).cons1 ih'
  have:=hp.1
  cases v<;>simp [dW] at hid<;>subst hid<;>simpa using this
 | int _ ih=>simp only [aH] at hp;exact .int (ih hfs hp.2 hl hr)
 | bool _ ih=>simp only [aH] at hp;exact .bool (ih hfs hp.2 hl hr)
 | str _ ih=>simp only [aH] at hp;exact .str (ih hfs hp.2 hl hr)
 | nils _ ih=>simp only [aH] at hp;exact .nils (ih hfs hp.2 hl hr)
 | nilp _ ih=>simp only [aH] at hp;exact .nilp (ih hfs hp.2 hl hr)
 | nilf _ ih=>simp only [aH] at hp;exact .nilf (ih hfs hp.2 hl hr)
 | dead _ ih=>simp only [aH] at hp;exact .dead (ih hfs hp.2 hl hr)
 | sl0 _ ih=>simp only [aH] at hp;exact .sl0 (ih hfs hp.2 hl hr)
 | sl a b c d e _ _ ih=>simp only [aH] at hp;exact .sl a b c d e (ih hfs hp.2 hl hr)
 | osl0 _ ih=>simp only [aH] at hp;exact .osl0 (ih hfs hp.2 hl hr)
 | osl=>simp at hfs
 | ptr a b c d _ _ ih=>simp only [aH] at hp;exact .ptr a b c d (ih hfs hp.2 hl hr)
 | optr=>simp at hfs
 | nilm _ ih=>simp only [aH] at hp;exact .nilm (ih hfs hp.2 hl hr)
 | rmap a b c d _ _ ih=>simp only [aH] at hp;exact .rmap a b c d (ih hfs hp.2 hl hr)
 | omap=>simp at hfs
 | oitr=>simp at hfs
 | agg _ _ ih1 ih2 =>
  simp only [aH,uY] at hp
  obtain ⟨rfl,rfl⟩:_=[]/\_=[]:=by simpa using hfs
  exact .agg (ih1 rfl hp.1 hl hr) (ih2 rfl hp.2 hl hr)
 | tup _ _ ih1 ih2 =>
  simp only [aH,zV] at hp
  obtain ⟨rfl,rfl⟩:_=[]/\_=[]:=by simpa using hfs
  exact .tup (ih1 rfl hp.1 hl hr) (ih2 rfl hp.2 hl hr)
 | fn _ _ ih1 ih2 =>
  simp only [aH,DF] at hp
  obtain ⟨rfl,rfl⟩:_=[]/\_=[]:=by simpa using hfs
  exact .fn (ih1 rfl hp.1 hl hr) (ih2 rfl hp.2 hl hr)
theorem Rel.lower (hr:Rel E N S M loc fp a w) {N':Nat} (hS:∀t,(S t).inn (·<N')) (hM:∀id,M id≠.dead->id<N'):Rel E N' S M loc fp a w :=
 ⟨hr.below,hr.base,hr.size,hr.tree,hr.gone,fun id h=>by
  cases hd:M id with
  | dead=>rfl
  | _=>have:=hM id (by rw [hd];simp);omega,hr.nodup,hr.apart,hr.fresh,fun t=>(hr.slots t).lower (p:=(·<N')) rfl (by simpa using hS t) (fun v rv h=>by obtain ⟨id,h1,_⟩:=h.isRef;exact ⟨id,h1⟩) (fun v rv id h hid hp=>by
   cases v<;>simp only [dW,bT,reduceCtorEq] at hid<;>subst hid
   ·exact ⟨hp,h.2⟩
   ·exact ⟨hp,h.2⟩
   ·exact ⟨hp,h.2⟩),hr.defers⟩
theorem Rel.drew (hr:Rel E N S M loc fp a w) (n:Nat):Rel E N S M loc fp a { w with drawn:=n }:=by
 have hb:=hr.below
 exact ⟨⟨hb.os,hb.tape,hb.output,hb.size,hb.block⟩,hr.base,hr.size,hr.tree,hr.gone,hr.new,hr.nodup,hr.apart,hr.fresh,hr.slots,hr.defers⟩
theorem Rel.inv (hr:Rel E N S M loc fp a w):Inv N (fun _=>False) S M:=by
 refine ⟨fun t x hx=>.inl ?_,fun id x hx=>?_,fun id hid=>.inl ?_⟩
 ·have h1:=(hr.slots t).inn (p:=fun x=>x<N) (fun v rv id h hid=>by cases v<;>simp only [dW,bT,reduceCtorEq] at hid<;>subst hid<;>exact h.1)
  simp only [aH] at h1
  exact h1.1 x hx
 ·by_cases h:M id=.dead
  ·rw [h] at hx;cases hx
  ·have:=(hr.tree id h).inn (p:=fun _=>False) (fun _ _ _ h=>h.elim)
   simp only [aH] at this
   exact (this.1 x hx).elim
 ·rcases dX id N with h|h
  ·exact h
  ·exact absurd (hr.new id h) hid
end
section
variable {P:Program} {E:Fr} {ops:Array Oper} {D:DS} {nx:Nat} {K:Lk->Lk->Prop} {Q:Exit->Act->World->Prop}
theorem lH {masks:List Nat} {all:List HOper} (h:lQ masks all=true) {i:Nat} {o:HOper} (ho:all[i]?=some o):masks.getD i 0<2 ^ i/\rC o=true/\∀k,k<i->∀q,all[k]?=some q->rq masks k i=false->FU all q o=true:=by
 have hlt:=(zl026.1 ho).1
 simp only [lQ,zl016,zl032] at h
 have:=h i hlt
 rw [ho] at this
 simp only [Yb,aZ,decide_eq_true_eq,zl016,zl032,Dv] at this
 refine ⟨this.1.1,this.1.2,fun k hk q hq hb=>?_⟩
 rcases this.2 k hk with h|h
 ·rw [hb] at h;cases h
 ·rw [hq] at h;exact h
theorem Uj {all:List HOper} (hall:all=ops.toList.map (aJ P E.ok)) (hst:lQ (dD ops) all=true) (hQ:∀X S M N loc fp a w,Inv nx X S M->(∀k,X k->k<ops.size)->Rel E N S M loc fp a w->K S M->Q .normal a w) :
  ∀ (fuel:Nat) (listed:Array Bool) (rem:List Nat) (log:l7) (S M:Lk) (N:Nat) (loc:Nat->Value) (fp:Nat->List Nat) (a:Act) (w:World),listed.size=ops.size->rem=(List.range ops.size).filter (fun i=>listed.getD i true==false)->rem.length<=fuel ->
   (∀i o,ops[i]?=some o->listed.getD i false=true->∀e∈o.after,Region.binds .any e=true->listed.getD e.on false=true) ->
   dr (HT2 P) D all (dD ops) nx K rem log S M->Inv nx (fun k=>listed.getD k false=true) S M->Rel E N S M loc fp a w->wpAny P .any ops Q fuel listed a w:=by
 have atH:∀i o,ops[i]?=some o->all[i]?=some (aJ P E.ok o):=fun i o h=>by rw [hall,fZ,oZ,h];rfl
 intro fuel
 induction fuel with
 | zero =>
  intro listed rem log S M N loc fp a w hsz hrem hfu hcl hdr hI hr
  have hnil:rem=[]:=gI (by omega)
  subst hnil
  refine ⟨?_,hQ _ S M N loc fp a w hI (fun k hk=>?_) hr hdr⟩
  ·refine zl036.2 fun i hi=>?_
   obtain ⟨h1,o,ho,_⟩:=mem_ready.1 hi
   have:i∈(List.range ops.size).filter (fun i=>listed.getD i true==false):=by
    rw [zl058,zl032]
    exact ⟨(zl030.1 ho).1,by simpa using h1⟩
   rw [<- hrem] at this;cases this
  ·rcases dX k listed.size with h|h
   ·omega
   ·simp [AQ h] at hk
 | succ fuel ih =>
  intro listed rem log S M N loc fp a w hsz hrem hfu hcl hdr hI hr
  have mem:∀i,i∈rem <-> i<ops.size/\listed.getD i true=false:=fun i=>by rw [hrem,zl058,zl032];simp
  have sorted:rem.Pairwise (·<·):=by rw [hrem];exact List.pairwise_lt_range.filter _
  have lst:∀i,i<ops.size->listed.getD i true≠false->listed.getD i false=true:=fun i hi h=>by
   have hi':i<listed.size:=by omega
   simp only [jC,lL hi',fV] at h ⊢
   simpa using h
  have lst':∀i,listed.getD i false=true->listed.getD i true≠false:=fun i h=>by
   have hi':i<listed.size:=by
    rcases dX i listed.size with h'|h'
    ·exact h'
    ·simp [AQ h'] at h
   simp only [jC,lL hi',fV] at h ⊢
   simp [h]
  have opAt:∀i,i<ops.size->∃o,ops[i]?=some o:=fun i hi=>⟨ops[i],lL hi⟩
  have onlt:∀i o e,ops[i]?=some o->e∈o.after->Region.binds .any e=true->e.on<i:=fun i o e ho he hb=>by
   have h1:=(lH hst (atH i o ho)).1
   have h2:=D6 ho he hb
   unfold rq at h2
   rcases dX e.on i with h|h
   ·exact h
   ·rw [JL (lI h1 (Ce (by omega) h))] at h2;cases h2
  have closed:∀i,∀k,rq (dD ops) k i=true->i<ops.size->listed.getD i false=true->listed.getD k false=true:=by
   intro i
   induction i using Nat.strongRecOn with
   | _ i ihi =>
    intro k hk hi hl
    obtain ⟨o,ho⟩:=opAt i hi
    obtain ⟨e,he,hb,h⟩:=kY ho hk
    have hle:=hcl i o ho hl e he hb
    rcases h with rfl|h
    ·exact hle
    ·have:=onlt i o e ho he hb
     exact ihi e.on this k h (by omega) hle
  refine ⟨fun h0=>?_,fun i hi=>?_⟩
  ·cases hrm:rem with
   | nil =>
    rw [hrm] at hdr
    refine hQ _ S M N loc fp a w hI (fun k hk=>?_) hr hdr
    rcases dX k listed.size with h|h
    ·omega
    ·simp [AQ h] at hk
   | cons i r =>
    exfalso
    have him:i∈rem:=by rw [hrm];simp
    obtain ⟨hi,hun⟩:=(mem i).1 him
    obtain ⟨o,ho⟩:=opAt i hi
    have:i∈Region.ready .any ops listed:=mem_ready.2 ⟨hun,o,ho,fun e he hb=>by
     have h1:=onlt i o e ho he hb
     by_cases h2:listed.getD e.on true=false
     ·have h3:e.on∈rem:=(mem e.on).2 ⟨by omega,h2⟩
      rw [hrm] at h3 sorted
      rcases zl011.1 h3 with h4|h4
      ·omega
      ·have:=(List.pairwise_cons.1 sorted).1 e.on h4;omega
     ·exact lst e.on (by omega) h2⟩
    rw [h0] at this;cases this
  ·obtain ⟨hun,o,ho,haft⟩:=mem_ready.1 hi
   have hio:i<ops.size:=(zl030.1 ho).1
   have him:i∈rem:=(mem i).2 ⟨hio,hun⟩
   obtain ⟨l1,l2,hsplit⟩:=List.append_of_mem him
   have hnd:rem.Nodup:=sorted.imp fun h=>Nat.ne_of_lt h
   obtain ⟨hlt,hlit,hpair⟩:=lH hst (atH i o ho)
   have hXi:¬ listed.getD i false=true:=fun h=>lst' i h hun
   rw [hsplit] at hdr sorted hnd
   have hfr:=OG (atH i o ho) hlit l1 l2 _ log S M hI hXi (fun k hk=>by
    have hkm:k∈rem:=by rw [hsplit];simp [hk]
    obtain ⟨hk1,hk2⟩:=(mem k).1 hkm
    have hki:k<i:=(List.pairwise_append.1 sorted).2.2 k hk i (by simp)
    obtain ⟨q,hq⟩:=opAt k hk1
    obtain ⟨hlt',hlit',_⟩:=lH hst (atH k q hq)
    have hXk:¬ listed.getD k false=true:=fun h=>lst' k h hk2
    have b1:rq (dD ops) k i=false:=by
     cases hb:rq (dD ops) k i with
     | false=>rfl
     | true =>
      exfalso
      obtain ⟨e,he,hbb,h⟩:=kY ho hb
      have hle:=haft e he hbb
      rcases h with rfl|h
      ·exact hXk hle
      ·have:=onlt i o e ho he hbb
       exact hXk (closed e.on k h (by omega) hle)
    refine ⟨by omega,hXk,_,atH k q hq,hlit',hpair k hki _ (atH k q hq) b1,b1,?_⟩
    unfold rq
    exact JL (lI hlt' (Ce (by omega) (Nat.le_of_lt hki)))) (zl008.1 hnd).1 hdr
   obtain ⟨o',ho',hs,_,hnext⟩:=hfr
   rw [atH i o ho] at ho';cases ho'
   subst hall
   refine Jl ho hr hI hXi hlit hs fun e a' w' hres ⟨N',loc',fp',hr'⟩=>?_
   obtain ⟨f1,f2,_,_⟩:=uP hI hlit hs hres
   have hI':=hI.step (o:=aJ P E.ok o) f1 f2
   have hset:∀k,(listed.setIfInBounds i true).getD k false=true <-> (listed.getD k false=true\/k=i):=fun k=>by
    by_cases hk:k=i
    ·subst hk;simp [hsz,hio]
    ·rw [getD_set_ne false (fun h=>hk h.symm)];simp [hk]
   refine ih (listed.setIfInBounds i true) (l1++l2) _ _ _ N' loc' fp' a' w' (by simpa using hsz) ?_ ?_ ?_ (hnext e hres).2 ⟨fun t=>HV.inn_mono (hI'.slots t) fun x hx=>lZ (fun k hk=>(hset k).2 hk) hx,fun id=>HV.inn_mono (hI'.trees id) fun x hx=>lZ (fun k hk=>(hset k).2 hk) hx,fun id h=>lZ (fun k hk=>(hset k).2 hk) (hI'.alive id h)⟩ hr'
   ·have e1:(List.range ops.size).filter (fun k=>(listed.setIfInBounds i true).getD k true==false)=((List.range ops.size).filter (fun k=>listed.getD k true==false)).filter (fun k=>k != i):=by
     rw [List.filter_filter]
     refine List.filter_congr fun k hk=>?_
     by_cases hki:k=i
     ·subst hki
      have:k<listed.size:=by omega
      simp [this]
     ·rw [getD_set_ne true (fun h=>hki h.symm)];simp [hki]
    rw [e1,<- hrem,hsplit]
    rw [zl008] at hnd
    obtain ⟨n1,n2,n3⟩:=hnd
    rw [zl033] at n2
    rw [ER,List.filter_cons_of_neg (by simp),zl079.2,zl079.2]
    ·intro k hk;simp;exact fun e=>n2.1 (e▸hk)
    ·intro k hk;simp;exact fun e=>n3 k hk i (by simp) e
   ·rw [hsplit] at hfu;simp at hfu ⊢;omega
   ·intro k q hq hl e' he' hb'
    rcases (hset k).1 hl with h|rfl
    ·exact (hset _).2 (.inl (hcl k q hq h e' he' hb'))
    ·rw [ho] at hq;cases hq
     exact (hset _).2 (.inl (haft e' he' hb'))
theorem Jk {all:List HOper} (hall:all=ops.toList.map (aJ P E.ok)) (hst:lQ (dD ops) all=true) (m n:Nat) (hn:n<=ops.size) (hlast:∀i,n<=i->i<ops.size->∀k,m<=k->k<i->rq (dD ops) k i=true)
  (hQ:∀fuel (listed:Array Bool) X S M N loc fp a w,ops.size - n<=fuel->listed.size=ops.size->(∀k,k<n->listed.getD k false=true)->(∀k,n<=k->k<ops.size->listed.getD k true=false)->Inv nx X S M->(∀k,X k->k<n)->Rel E N S M loc fp a w->K S M->wpAny P .any ops Q fuel listed a w) :
  ∀ (fuel:Nat) (listed:Array Bool) (rem:List Nat) (log:l7) (S M:Lk) (N:Nat) (loc:Nat->Value) (fp:Nat->List Nat) (a:Act) (w:World),listed.size=ops.size->rem=(List.range n).filter (fun i=>listed.getD i true==false)->(∀k,n<=k->k<ops.size->listed.getD k true=false)->rem.length+(ops.size - n)<=fuel->(∀k,k<m->listed.getD k true≠false) ->
   (∀i o,ops[i]?=some o->listed.getD i false=true->∀e∈o.after,Region.binds .any e=true->listed.getD e.on false=true) ->
   dr (HT2 P) D all (dD ops) nx K rem log S M->Inv nx (fun k=>listed.getD k false=true) S M->Rel E N S M loc fp a w->wpAny P .any ops Q fuel listed a w:=by
 have atH:∀i o,ops[i]?=some o->all[i]?=some (aJ P E.ok o):=fun i o h=>by rw [hall,fZ,oZ,h];rfl
 intro fuel
 induction fuel with
 | zero =>
  intro listed rem log S M N loc fp a w hsz hrem hsuf hfu hlm hcl hdr hI hr
  have hnil:rem=[]:=gI (by omega)
  subst hnil
  have hall':∀k,k<n->listed.getD k false=true:=fun k hk=>by
   have hk':k<listed.size:=by omega
   have:¬ k∈(List.range n).filter (fun i=>listed.getD i true==false):=by rw [<- hrem];simp
   rw [zl058,zl032] at this
   simp only [jC,lL hk',fV] at this ⊢
   simpa [hk] using this
  refine hQ 0 listed _ S M N loc fp a w (by omega) hsz hall' hsuf hI (fun k hk=>?_) hr hdr
  rcases dX k n with h|h
  ·exact h
  ·exfalso
   have hk':k<listed.size:=by
    rcases dX k listed.size with h'|h'
    ·exact h'
    ·simp [AQ h'] at hk
   have:=hsuf k h (by omega)
   simp only [jC,lL hk',fV] at this hk
   rw [this] at hk;cases hk
 | succ fuel ih =>
  intro listed rem log S M N loc fp a w hsz hrem hsuf hfu hlm hcl hdr hI hr
  have mem:∀i,i∈rem <-> i<n/\listed.getD i true=false:=fun i=>by rw [hrem,zl058,zl032];simp
  have sorted:rem.Pairwise (·<·):=by rw [hrem];exact List.pairwise_lt_range.filter _
  have lst:∀i,i<ops.size->listed.getD i true≠false->listed.getD i false=true:=fun i hi h=>by
   have hi':i<listed.size:=by omega
   simp only [jC,lL hi',fV] at h ⊢
   simpa using h
  have lst':∀i,listed.getD i false=true->listed.getD i true≠false:=fun i h=>by
   have hi':i<listed.size:=by
    rcases dX i listed.size with h'|h'
    ·exact h'
    ·simp [AQ h'] at h
   simp only [jC,lL hi',fV] at h ⊢
   simp [h]
  have opAt:∀i,i<ops.size->∃o,ops[i]?=some o:=fun i hi=>⟨ops[i],lL hi⟩
  have onlt:∀i o e,ops[i]?=some o->e∈o.after->Region.binds .any e=true->e.on<i:=fun i o e ho he hb=>by
   have h1:=(lH hst (atH i o ho)).1
   have h2:=D6 ho he hb
   unfold rq at h2
   rcases dX e.on i with h|h
   ·exact h
   ·rw [JL (lI h1 (Ce (by omega) h))] at h2;cases h2
  have closed:∀i,∀k,rq (dD ops) k i=true->i<ops.size->listed.getD i false=true->listed.getD k false=true:=by
   intro i
   induction i using Nat.strongRecOn with
   | _ i ihi =>
    intro k hk hi hl
    obtain ⟨o,ho⟩:=opAt i hi
    obtain ⟨e,he,hb,h⟩:=kY ho hk
    have hle:=hcl i o ho hl e he hb
    rcases h with rfl|h
    ·exact hle
    ·have:=onlt i o e ho he hb
     exact ihi e.on this k h (by omega) hle
  by_cases hrn:rem=[]
  ·subst hrn
   refine hQ (fuel+1) listed _ S M N loc fp a w (by simpa using hfu) hsz (fun k hk=>?_) hsuf hI (fun k hk=>?_) hr hdr
   ·exact lst k (by omega) fun h=>by have:=(mem k).2 ⟨hk,h⟩;cases this
   ·rcases dX k n with h|h
    ·exact h
    ·exfalso
     have hk':k<listed.size:=by
      rcases dX k listed.size with h'|h'
      ·exact h'
      ·simp [AQ h'] at hk
     exact lst' k hk (hsuf k h (by omega))
  have hin:∀i,i∈Region.ready .any ops listed->i<n:=fun i hi=>by
   obtain ⟨hun,o,ho,haft⟩:=mem_ready.1 hi
   have hio:i<ops.size:=(zl030.1 ho).1
   rcases dX i n with h|h
   ·exact h
   ·exfalso
    obtain ⟨k,hk⟩:=RZ rem hrn
    obtain ⟨hk1,hk2⟩:=(mem k).1 hk
    have hXk:¬ listed.getD k false=true:=fun h=>lst' k h hk2
    obtain ⟨e,he,hbb,h3⟩:=kY ho (hlast i h hio k (Nw fun hkm=>hlm k hkm hk2) (by omega))
    have hle:=haft e he hbb
    rcases h3 with rfl|h3
    ·exact hXk hle
    ·have:=onlt i o e ho he hbb
     exact hXk (closed e.on k h3 (by omega) hle)
  refine ⟨fun h0=>?_,fun i hi=>?_⟩
  ·exfalso
   cases hrm:rem with
   | nil=>exact hrn hrm
   | cons i r =>
    have him:i∈rem:=by rw [hrm];simp
    obtain ⟨hi,hun⟩:=(mem i).1 him
    obtain ⟨o,ho⟩:=opAt i (by omega)
    have:i∈Region.ready .any ops listed:=mem_ready.2 ⟨hun,o,ho,fun e he hb=>by
     have h1:=onlt i o e ho he hb
     by_cases h2:listed.getD e.on true=false
     ·have h3:e.on∈rem:=(mem e.on).2 ⟨by omega,h2⟩
      rw [hrm] at h3 sorted
      rcases zl011.1 h3 with h4|h4
      ·omega
      ·have:=(List.pairwise_cons.1 sorted).1 e.on h4;omega
     ·exact lst e.on (by omega) h2⟩
    rw [h0] at this;cases this
  ·have hin':=hin i hi
   obtain ⟨hun,o,ho,haft⟩:=mem_ready.1 hi
   have hio:i<ops.size:=(zl030.1 ho).1
   have him:i∈rem:=(mem i).2 ⟨hin',hun⟩
   obtain ⟨l1,l2,hsplit⟩:=List.append_of_mem him
   have hnd:rem.Nodup:=sorted.imp fun h=>Nat.ne_of_lt h
   obtain ⟨hlt,hlit,hpair⟩:=lH hst (atH i o ho)
   have hXi:¬ listed.getD i false=true:=fun h=>lst' i h hun
   rw [hsplit] at hdr sorted hnd
   have hfr:=OG (atH i o ho) hlit l1 l2 _ log S M hI hXi (fun k hk=>by
    have hkm:k∈rem:=by rw [hsplit];simp [hk]
    obtain ⟨hk1,hk2⟩:=(mem k).1 hkm
    have hki:k<i:=(List.pairwise_append.1 sorted).2.2 k hk i (by simp)
    obtain ⟨q,hq⟩:=opAt k (by omega)
    obtain ⟨hlt',hlit',_⟩:=lH hst (atH k q hq)
    have hXk:¬ listed.getD k false=true:=fun h=>lst' k h hk2
    have b1:rq (dD ops) k i=false:=by
     cases hb:rq (dD ops) k i with
     | false=>rfl
     | true =>
      exfalso
      obtain ⟨e,he,hbb,h⟩:=kY ho hb
      have hle:=haft e he hbb
      rcases h with rfl|h
      ·exact hXk hle
      ·have:=onlt i o e ho he hbb
       exact hXk (closed e.on k h (by omega) hle)
    refine ⟨by omega,hXk,_,atH k q hq,hlit',hpair k hki _ (atH k q hq) b1,b1,?_⟩
    unfold rq
    exact JL (lI hlt' (Ce (by omega) (Nat.le_of_lt hki)))) (zl008.1 hnd).1 hdr
   obtain ⟨o',ho',hs,_,hnext⟩:=hfr
   rw [atH i o ho] at ho';cases ho'
   subst hall
   refine Jl ho hr hI hXi hlit hs fun e a' w' hres ⟨N',loc',fp',hr'⟩=>?_
   obtain ⟨f1,f2,_,_⟩:=uP hI hlit hs hres
   have hI':=hI.step (o:=aJ P E.ok o) f1 f2
   have hset:∀k,(listed.setIfInBounds i true).getD k false=true <-> (listed.getD k false=true\/k=i):=fun k=>by
    by_cases hk:k=i
    ·subst hk;simp [hsz,hio]
    ·rw [getD_set_ne false (fun h=>hk h.symm)];simp [hk]
   refine ih (listed.setIfInBounds i true) (l1++l2) _ _ _ N' loc' fp' a' w' (by simpa using hsz) ?_ ?_ ?_ (fun k hk h=>?_) ?_ (hnext e hres).2 ⟨fun t=>HV.inn_mono (hI'.slots t) fun x hx=>lZ (fun k hk=>(hset k).2 hk) hx,fun id=>HV.inn_mono (hI'.trees id) fun x hx=>lZ (fun k hk=>(hset k).2 hk) hx,fun id h=>lZ (fun k hk=>(hset k).2 hk) (hI'.alive id h)⟩ hr'
   ·have e1:(List.range n).filter (fun k=>(listed.setIfInBounds i true).getD k true==false)=((List.range n).filter (fun k=>listed.getD k true==false)).filter (fun k=>k != i):=by
     rw [List.filter_filter]
     refine List.filter_congr fun k hk=>?_
     rw [zl032] at hk
     by_cases hki:k=i
     ·subst hki
      have:k<listed.size:=by omega
      simp [this]
     ·rw [getD_set_ne true (fun h=>hki h.symm)];simp [hki]
    rw [e1,<- hrem,hsplit]
    rw [zl008] at hnd
    obtain ⟨n1,n2,n3⟩:=hnd
    rw [zl033] at n2
    rw [ER,List.filter_cons_of_neg (by simp),zl079.2,zl079.2]
    ·intro k hk;simp;exact fun e=>n2.1 (e▸hk)
    ·intro k hk;simp;exact fun e=>n3 k hk i (by simp) e
   ·intro k hk1 hk2
    rw [getD_set_ne true (by omega)];exact hsuf k hk1 hk2
   ·rw [hsplit] at hfu;simp at hfu ⊢;omega
   ·by_cases hki:k=i
    ·subst hki
     have:k<listed.size:=by omega
     simp [this] at h
    ·rw [getD_set_ne true (fun h=>hki h.symm)] at h;exact hlm k hk h
   ·intro k q hq hl e' he' hb'
    rcases (hset k).1 hl with h|rfl
    ·exact (hset _).2 (.inl (hcl k q hq h e' he' hb'))
    ·rw [ho] at hq;cases hq
     exact (hset _).2 (.inl (haft e' he' hb'))
end
def HOp.isBad {α:Type}:HOp α->Bool|.bad=>true|_=>false
theorem mem_slotsOf {l:List HX} {t:Nat}:t∈slotsOf l <-> HX.t t∈l:=by
 induction l with
 | nil=>simp [slotsOf]
 | cons x r ih=>cases x<;>simp [slotsOf,ih]
theorem zq {t:Tmp}:dO (.tmp t)=.t t:=rfl
theorem Rx {y:Operand} {x:Tmp} (h:dO y=.t x):y=.tmp x:=by
 cases y<;>simp [dO] at h ⊢
 exact h
theorem mapM_mem {α β:Type} {f:α->Option β}:∀ {l:List α} {r:List β},l.mapM f=some r->∀a∈l,∃b∈r,f a=some b:=by
 intro l
 induction l with
 | nil=>intro r _ a ha;cases ha
 | cons x l ih =>
  intro r h a ha
  rw [List.mapM_cons] at h
  cases hx:f x with
  | none=>rw [hx] at h;cases h
  | some b =>
   rw [hx] at h
   cases hl:l.mapM f with
   | none=>rw [hl] at h;cases h
   | some r' =>
    rw [hl] at h
    cases h
    rcases zl011.1 ha with rfl|ha
    ·exact ⟨b,by simp,hx⟩
    ·obtain ⟨c,h1,h2⟩:=ih hl a ha
     exact ⟨c,by simp [h1],h2⟩
theorem XK {ne:Bool} {x y:HX} (h:(yY ne x y).isBad=false):yY ne x y=.isn ne x/\∀t,y≠.t t:=by
 unfold yY at h ⊢
 split at h
 ·exact ⟨rfl,fun t h=>by cases h⟩
 ·cases h
theorem Uc {ne:Bool} {x y:HX} (h:(qA ne x y).isBad=false):qA ne x y=.mnil ne x/\∀t,y≠.t t:=by
 unfold qA at h ⊢
 split at h
 ·exact ⟨rfl,fun t h=>by cases h⟩
 ·cases h
theorem Vj {P:Program} {o:Oper} {t:Tmp} (h:(aN P o).isBad=false) (ht:Operand.tmp t∈o.op.operands):HX.t t∈(aN P o).vals:=by
 obtain ⟨dst,op,type,pos,after,guard⟩:=o
 revert h ht
 unfold aN
 simp only
 repeat' split
 all_goals (intro h ht)
 all_goals (try (cases h;done))
 all_goals (simp only [Op.operands] at ht)
 all_goals (try (obtain ⟨e,hy⟩:=XK h;rw [e];simp at ht;rcases ht with ht|ht<;>subst ht<;>(first|(simp [HOp.vals,zq];done)|exact absurd rfl (hy _))))
 all_goals (try (obtain ⟨e,hy⟩:=Uc h;rw [e];simp at ht;rcases ht with ht|ht<;>subst ht<;>(first|(simp [HOp.vals,zq];done)|exact absurd rfl (hy _))))
 all_goals (try (simp only [HOp.vals]))
 all_goals (try (simp at ht))
 all_goals (try simp only [Operand.tmp.injEq] at ht)
 all_goals (try (subst ht;simp [zq];done))
 all_goals (try (rcases ht with ht|ht<;>subst ht<;>simp [zq]<;>done))
 all_goals (try (rcases ht with ht|ht|ht<;>subst ht<;>simp [zq]<;>done))
 all_goals (try (
  obtain ⟨a,ha⟩:=ht
  have hq:∃p∈_,_:=mapM_mem (by assumption) _ (zl087.2 ha)
  obtain ⟨b,hb,he⟩:=hq
  rw [MX] at he
  obtain ⟨q,_,rfl⟩:=he
  exact zl020.2 ⟨_,hb,rfl⟩))
 all_goals (try (
  obtain ⟨a,ha⟩:=ht
  exact zl020.2 ⟨_,zl087.2 ha,rfl⟩))
 all_goals (try (
  rename_i h0
  rcases ht with ht|ht
  ·have:=WF h0;subst this;simp at ht
  ·exact zl020.2 ⟨_,zl087.2 ht,rfl⟩))
 all_goals (try (
  rename_i h0
  have h1:=h0.2.2
  rcases ht with ht|ht<;>subst ht
  ·simp [zq]
  ·unfold NP at h1
   split at h1
   ·simp_all [zq]
   ·rename_i e;cases e
   ·cases h1))
 all_goals (try (
  rename_i h0
  rw [aZ] at h0
  rcases ht with ht|ht|ht<;>subst ht
  ·simp [zq]
  ·cases h0.1
  ·cases h0.2))
 all_goals (rw [Call.operands,Array.mem_append] at ht)
 all_goals (rcases ht with ht|ht)
 all_goals (first|(rw [<- zl087] at ht;simp only [*,zl011,F9,or_false] at ht;done)|skip)
 all_goals (try (simp only [*] at ht;simp at ht;subst ht;simp [zq];done))
 all_goals (try (simp only [*] at ht;simp at ht;done))
 all_goals (try rw [<- zl087] at ht)
 all_goals (try (simp only [*,zl011,F9,or_false] at ht))
 all_goals (try (subst ht;simp [zq];done))
 all_goals (try (rcases ht with ht|ht<;>subst ht<;>simp [zq]<;>done))
 all_goals (try (exact zl020.2 ⟨_,ht,rfl⟩))
 all_goals (try (exact yh _ (zl020.2 ⟨_,ht,rfl⟩)))
 all_goals trace_state
 all_goals sorry
theorem Jc {P:Program} {ops:Array Oper} {T:Nat->Bool} {o:Oper} (hb:(aJ P T o).op.isBad=false) {t:Tmp} (h:t∈o.looksAt ops):t∈looks (ops.toList.map (aJ P T)) (aJ P T o):=by
 have e:(aJ P T o).op=aN P o:=by
  unfold aJ at hb ⊢
  simp only at hb ⊢
  split at hb
  ·rename_i h;rw [if_pos h]
  ·cases hb
 rw [e] at hb
 unfold Oper.looksAt at h
 unfold looks
 rw [e]
 rcases zl002.1 h with h|h
 ·refine List.mem_append_left _ (mem_slotsOf.2 (Vj hb ?_))
  obtain ⟨x,hx,hx'⟩:=List.mem_filterMap.1 h
  split at hx'
  ·cases hx';exact zl087.1 hx
  ·cases hx'
 ·refine List.mem_append_right _ ?_
  have hg:(aJ P T o).guard=o.guard:=rfl
  rw [hg]
  cases h1:o.guard with
  | none=>rw [h1] at h;cases h
  | some gw =>
   obtain ⟨g,b⟩:=gw
   rw [h1] at h
   simp only [fZ,Option.bind_map] at h ⊢
   have:((ops.toList[g]?).bind ((fun x=>x.dst) ∘ aJ P T))=((ops[g]?).bind (·.dst)):=by rw [oZ];rfl
   rw [this];exact h
theorem aaI {P:Program} {T:Nat->Bool} {o:Oper} (hb:(aJ P T o).op.isBad=false):∀cs b,o.op≠.select cs b:=by
 intro cs b he
 unfold aJ aN at hb
 simp only [he] at hb
 split at hb<;>cases hb
def LK (masks:List Nat) (all:List HOper) (i d x:Nat):Bool :=
 masks.getD i 0==0&&all.all (fun o=>!o.op.isBad)&&(List.range all.length).all fun j=>(match all[j]? with|some q=>(q.dst != some x || rq masks i j)&&(j==i || q.dst != some d&&(rq masks i j || !(looks all q).contains d))|none=>true)
def Jn (o:HOper):Option (Nat×Nat):=match o with
 | ⟨some d,.mv _ (.t x),none⟩=>some (d,x)
 | _=>none
theorem QF {o:HOper} {d x:Nat} (h:Jn o=some (d,x)):∃z,o=⟨some d,.mv z (.t x),none⟩:=by
 unfold Jn at h
 split at h
 ·cases h;exact ⟨_,rfl⟩
 ·cases h
def Nk (masks:List Nat) (all:List HOper) (m:Nat):Bool :=
 (List.range m).all fun i=>match all[i]? with
  | some o=>(match Jn o with|some (d,x)=>LK masks all i d x|none=>false)
  | none=>false
section
variable {P:Program} {E:Fr} {ops:Array Oper} {Q:Exit->Act->World->Prop}
def ListedOK (ops:Array Oper) (listed:Array Bool):Prop:=∀i o,ops[i]?=some o->listed.getD i false=true->∀e∈o.after,Region.binds .any e=true->listed.getD e.on false=true
theorem La {all:List HOper} (hall:all=ops.toList.map (aJ P E.ok)) (hst:lQ (dD ops) all=true):∀i o e,ops[i]?=some o->e∈o.after->Region.binds .any e=true->e.on<i:=fun i o e ho he hb=>by
 have h1:=(lH hst (show all[i]?=some (aJ P E.ok o) by rw [hall,fZ,oZ,ho];rfl)).1
 have h2:=D6 ho he hb
 unfold rq at h2
 rcases dX e.on i with h|h
 ·exact h
 ·rw [JL (lI h1 (Ce (by omega) h))] at h2;cases h2
theorem Pj {all:List HOper} (hall:all=ops.toList.map (aJ P E.ok)) (hst:lQ (dD ops) all=true) {listed:Array Bool} (hcl:ListedOK ops listed):∀i,∀k,rq (dD ops) k i=true->i<ops.size->listed.getD i false=true->listed.getD k false=true:=by
 intro i
 induction i using Nat.strongRecOn with
 | _ i ihi =>
  intro k hk hi hl
  have ho:ops[i]?=some ops[i]:=lL hi
  obtain ⟨e,he,hb,h⟩:=kY ho hk
  have hle:=hcl i _ ho hl e he hb
  rcases h with rfl|h
  ·exact hle
  ·have:=La hall hst i _ e ho he hb
   exact ihi e.on this k h (by omega) hle
theorem ListedOK.set {listed:Array Bool} (hcl:ListedOK ops listed) (hsz:listed.size=ops.size) {j:Nat} {oj:Oper} (hoj:ops[j]?=some oj) (haft:∀e∈oj.after,Region.binds .any e=true->listed.getD e.on false=true):ListedOK ops (listed.setIfInBounds j true):=by
 have hjo:j<ops.size:=(zl030.1 hoj).1
 have hset:∀k,(listed.setIfInBounds j true).getD k false=true <-> (listed.getD k false=true\/k=j):=fun k=>by
  by_cases hk:k=j
  ·subst hk;simp [hsz,hjo]
  ·rw [getD_set_ne false (fun h=>hk h.symm)];simp [hk]
 intro k q hq hl e' he' hb'
 rcases (hset k).1 hl with h|rfl
 ·exact (hset _).2 (.inl (hcl k q hq h e' he' hb'))
 ·rw [hoj] at hq;cases hq
  exact (hset _).2 (.inl (haft e' he' hb'))
theorem EO {listed:Array Bool} {i:Nat} (h1:listed.getD i false=true) (h2:listed.getD i true=false):False:=by
 rcases dX i listed.size with h'|h'
 ·simp [h'] at h1 h2;rw [h2] at h1;cases h1
 ·simp [AQ h'] at h1
theorem Un {all:List HOper} (hall:all=ops.toList.map (aJ P E.ok)) (hst:lQ (dD ops) all=true) {i d x z:Nat} {oi:Oper} (hi:ops[i]?=some oi) (hop:aJ P E.ok oi=⟨some d,.mv z (.t x),none⟩) (hf:LK (dD ops) all i d x=true) (hQ:∀c a w,¬ Q (.panic c) a w) (v:Value) :
  ∀ (fuel:Nat) (listed:Array Bool) (a:Act) (w:World),listed.size=ops.size->ListedOK ops listed->listed.getD i true=false->Yields P ops oi v a ->
   wpAny P .any ops Q fuel (listed.setIfInBounds i true) (a.put (some d) v) w->wpAny P .any ops Q (fuel+1) listed a w:=by
 simp only [LK,aZ,beq_iff_eq,zl016,zu,zl032] at hf
 obtain ⟨⟨hf1,hf2⟩,hf3⟩:=hf
 have atH:∀i o,ops[i]?=some o->all[i]?=some (aJ P E.ok o):=fun i o h=>by rw [hall,fZ,oZ,h];rfl
 have hbad:∀j oj,ops[j]?=some oj->(aJ P E.ok oj).op.isBad=false:=fun j oj h=>hf2 _ (Oy (atH j oj h))
 have hdst:oi.dst=some d:=by have:=congrArg HOper.dst hop;exact this
 have hno:∀e∈oi.after,Region.binds .any e=true->False:=fun e he hb=>by
  have:=D6 hi he hb
  unfold rq at this
  rw [hf1] at this
  simp at this
 have rdy:∀listed:Array Bool,listed.getD i true=false->i∈Region.ready .any ops listed:=fun listed h=>mem_ready.2 ⟨h,oi,hi,fun e he hb=>(hno e he hb).elim⟩
 have key:∀ (listed:Array Bool) (j:Nat) (oj:Oper),listed.size=ops.size->ListedOK ops listed->listed.getD i true=false->ops[j]?=some oj->j≠i->(∀e∈oj.after,Region.binds .any e=true->listed.getD e.on false=true)->oi.apart ops oj=true:=by
  intro listed j oj hsz hcl hun hoj hji haft
  have hjo:j<ops.size:=(zl030.1 hoj).1
  have b:rq (dD ops) i j=false:=by
   cases hb:rq (dD ops) i j with
   | false=>rfl
   | true =>
    exfalso
    obtain ⟨e,he,hbb,h⟩:=kY hoj hb
    have hle:=haft e he hbb
    rcases h with rfl|h
    ·exact EO hle hun
    ·have:=La hall hst j oj e hoj he hbb
     exact EO (Pj hall hst hcl e.on i h (by omega) hle) hun
  have h3:=hf3 j (by rw [hall];simpa using hjo)
  rw [atH j oj hoj] at h3
  simp only [aZ,Dv,b,beq_iff_eq,Bool.false_eq_true,false_or,or_false,bne_iff_ne,ne_eq,zu,List.contains_eq_mem,decide_eq_false_iff_not] at h3
  obtain ⟨h4,h5⟩:=h3
  rcases h5 with h5|⟨h5,h6⟩
  ·exact absurd h5 hji
  have hd':(aJ P E.ok oj).dst=oj.dst:=rfl
  rw [hd'] at h4 h5
  have hlk:∀t∈oi.looksAt ops,t=x:=fun t ht=>by
   have:=Jc (hbad i oi hi) ht
   rw [hop] at this
   simpa [looks,slotsOf,HOp.vals] using this
  unfold Oper.apart
  rw [hdst]
  simp only [aZ,zu,List.contains_eq_mem,decide_eq_false_iff_not,bne_iff_ne,ne_eq]
  refine ⟨⟨fun h=>h6 ?_,h5⟩,?_⟩
  ·rw [hall];exact Jc (hbad j oj hoj) h
  ·cases hj:oj.dst with
   | none=>rfl
   | some e =>
    simp only [zu,decide_eq_false_iff_not]
    intro he
    exact h4 (by rw [hj,hlk e he])
 intro fuel
 induction fuel with
 | zero =>
  intro listed a w hsz hcl hun hy H
  have hr:=rdy listed hun
  refine ⟨fun h=>(by rw [h] at hr;cases hr),fun j hj=>?_⟩
  by_cases hji:j=i
  ·subst hji;refine hy.wpOp hi ?_;rw [hdst];exact H
  ·have:=ready_mono hj hji
   rw [H.1] at this
   cases this
 | succ fuel ih =>
  intro listed a w hsz hcl hun hy H
  have hr:=rdy listed hun
  refine ⟨fun h=>(by rw [h] at hr;cases hr),fun j hj=>?_⟩
  by_cases hji:j=i
  ·subst hji;refine hy.wpOp hi ?_;rw [hdst];exact H
  ·have h1:=H.2 j (ready_mono hj hji)
   obtain ⟨hjun,oj,hoj,hall'⟩:=mem_ready.1 hj
   rw [<- hdst] at h1
   have h2:=wpOp_put hoj (key listed j oj hsz hcl hun hoj hji hall') (aaI (hbad i oi hi)) (aaI (hbad j oj hoj)) (fun c a w h=>(hQ _ _ _ h).elim) hy h1
   refine wpOp_mono (fun a' w' h3=>ih (listed.setIfInBounds j true) a' w' (by simpa using hsz) (hcl.set hsz hoj hall') (by rw [getD_set_ne true hji];exact hun) h3.1 ?_) h2
   rw [Array.setIfInBounds_comm _ _ hji,<- hdst]
   exact h3.2
theorem UJ {o:Oper} {d x z:Nat} {T:Nat->Bool} (hop:aJ P T o=⟨some d,.mv z (.t x),none⟩) (a:Act):Yields P ops o (a.tmps.getD x undef) a:=by
 have hg:o.guard=none:=by have:=congrArg HOper.guard hop;exact this
 have ho:=congrArg HOper.op hop
 unfold aJ at ho
 simp only at ho
 split at ho
 rotate_left
 ·cases ho
 refine .inl ⟨by simp [Region.wanted,hg],fun w=>?_⟩
 have:o.op=.move (.tmp x)\/o.op=.assign (.tmp x):=by
  obtain ⟨dst,op,type,pos,after,guard⟩:=o
  revert ho
  unfold aN
  simp only
  repeat' split
  all_goals (intro ho)
  all_goals (first|(cases ho;done)|(unfold yY at ho;split at ho<;>(cases ho;done))|(unfold qA at ho;split at ho<;>(cases ho;done))|skip)
  ·left;injection ho with _ h;exact congrArg Op.move (Rx h)
  ·right;injection ho with _ h;exact congrArg Op.assign (Rx h)
 rcases this with h|h<;>simp [execOp,h,Act.eval]
def TK (all:List HOper):List Nat->List (Nat×HV)->List (Nat×HV)
 | [],sl=>sl
 | i::r,sl=>TK all r (match all[i]? with
  | some o=>(match Jn o with|some (d,x)=>(d,au x sl)::sl|none=>sl)
  | none=>sl)
theorem Qv {all:List HOper} (hall:all=ops.toList.map (aJ P E.ok)) (hst:lQ (dD ops) all=true) (hQ:∀c a w,¬ Q (.panic c) a w) :
  ∀ (l:List Nat) (fuel:Nat) (listed:Array Bool) (N:Nat) (sl:List (Nat×HV)) (M:Lk) (loc:Nat->Value) (fp:Nat->List Nat) (a:Act) (w:World),listed.size=ops.size->ListedOK ops listed->l.Nodup ->
   (∀i∈l,listed.getD i true=false/\∃o d x,all[i]?=some o/\Jn o=some (d,x)/\LK (dD ops) all i d x=true) ->
   Rel E N (fun t=>au t sl) M loc fp a w ->
   (∀listed' a',listed'.size=ops.size->ListedOK ops listed'->(∀k,listed'.getD k true=false <-> (listed.getD k true=false/\k ∉ l))->Rel E N (fun t=>au t (TK all l sl)) M loc fp a' w->wpAny P .any ops Q fuel listed' a' w)->wpAny P .any ops Q (fuel+l.length) listed a w:=by
 intro l
 induction l with
 | nil =>
  intro fuel listed N sl M loc fp a w hsz hcl _ _ hr h
  exact h listed a hsz hcl (fun k=>by simp) hr
 | cons i l ih =>
  intro fuel listed N sl M loc fp a w hsz hcl hnd hl hr h
  obtain ⟨hun,o,d,x,ho,hflt,hf⟩:=hl i (by simp)
  obtain ⟨z,rfl⟩:=QF hflt
  have hio:i<ops.size:=by
   have:=(zl026.1 ho).1
   rw [hall] at this;simpa using this
  have hoi:ops[i]?=some ops[i]:=lL hio
  have hop:aJ P E.ok ops[i]=⟨some d,.mv z (.t x),none⟩:=by
   rw [hall,fZ,oZ,hoi] at ho
   exact ET ho
  have hdst:ops[i].dst=some d:=by have:=congrArg HOper.dst hop;exact this
  have hok:∀t,some d=some t->E.ok t=true:=by
   have hq:=congrArg HOper.op hop
   unfold aJ at hq
   simp only at hq
   split at hq
   ·rename_i h1
    rintro t ⟨⟩
    rw [hdst] at h1
    simpa using h1
   ·cases hq
  have hr':=hr.put (some d) hok (hr.slots x)
  have hno:∀e∈ops[i].after,Region.binds .any e=true->listed.getD e.on false=true:=fun e he hb=>by
   have:=D6 hoi he hb
   unfold rq at this
   simp only [LK,aZ,beq_iff_eq] at hf
   rw [hf.1.1] at this
   simp at this
  rw [zl033] at hnd
  rw [List.length_cons,<- AZ]
  refine Un hall hst hoi hop hf hQ (a.tmps.getD x undef) (fuel+l.length) listed a w hsz hcl hun (UJ hop a) ?_
  refine ih fuel (listed.setIfInBounds i true) N ((d,au x sl)::sl) M loc fp _ w (by simpa using hsz) (hcl.set hsz hoi hno) hnd.2 (fun k hk=>?_) ?_ ?_
  ·have hki:i≠k:=fun e=>hnd.1 (e▸hk)
   obtain ⟨h1,h2⟩:=hl k (by simp [hk])
   exact ⟨by rw [getD_set_ne true hki];exact h1,h2⟩
  ·refine Eq.mp ?_ hr'
   congr 1
   funext t
   simp only [au]
   by_cases e:d=t
   ·subst e;simp
   ·simp [e]
  ·intro listed' a' h1 h2 h3 h4
   refine h listed' a' h1 h2 (fun k=>?_) ?_
   ·rw [h3 k]
    by_cases e:i=k
    ·subst e;have:i<listed.size:=by omega
     simp [this]
    ·rw [getD_set_ne true e]
     have:¬ k=i:=fun h=>e h.symm
     simp [this]
   ·simp only [TK,ho,hflt]
    exact h4
theorem LG {Q':Exit->Act->World->Prop} (h:∀e a w,Q e a w->Q' e a w):∀ (fuel:Nat) (listed:Array Bool) (a:Act) (w:World),wpAny P .any ops Q fuel listed a w->wpAny P .any ops Q' fuel listed a w:=by
 intro fuel
 induction fuel with
 | zero=>intro listed a w hh;exact ⟨hh.1,h _ _ _ hh.2⟩
 | succ fuel ih =>
  intro listed a w hh
  refine ⟨fun h0=>h _ _ _ (hh.1 h0),fun i hi=>?_⟩
  have h1:=hh.2 i hi
  have lo:LetsOut Q->LetsOut Q':=fun ⟨a,w,hq⟩=>⟨a,w,h _ _ _ hq⟩
  unfold wpOp at h1 ⊢
  split
  ·rename_i ho;rw [ho] at h1;exact ih _ _ _ h1
  ·rename_i o ho
   rw [ho] at h1
   simp only at h1
   split
   ·rename_i hw
    rw [if_pos hw] at h1
    refine h1.imp (fun h2=>?_) fun ⟨h2,h3⟩=>⟨h2,lo h3⟩
    unfold Oper.wp at h2 ⊢
    generalize (execOp a.eval o).run P w=r at h2 ⊢
    cases r with
    | ok n w' =>
     cases n<;>simp only [Oper.upon] at h2 ⊢ <;>
      first
       | exact ih _ _ _ h2
       | exact Calls.mono h2 (fun e w'' he=>by cases e<;>first|exact ih _ _ _ he|exact h _ _ _ he|exact lo he)
       | exact Rows.mono h2 (fun _ _ he=>ih _ _ _ he)
    | halt x w'=>cases x<;>simp only [Oper.upon] at h2 ⊢<;>first|exact h _ _ _ h2|exact h2
   ·rename_i hw
    rw [if_neg hw] at h1
    exact ih _ _ _ h1
end
end Go.HL
end
