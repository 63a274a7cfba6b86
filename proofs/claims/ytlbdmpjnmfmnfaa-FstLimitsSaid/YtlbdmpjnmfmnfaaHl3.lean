import Derived.Test.YtlbdmpjnmfmnfaaHl2
import Derived.Orders
set_option linter.unusedSimpArgs false
set_option linter.unusedVariables false
section
namespace Go.HL
open Go.RowKit
mutual
def HV.deep:HV->List Nat
 | .ref i _ _ _ _=>[i]
 | .pref i _ _=>[i]
 | .sl _ cs=>bg cs
 | .osl _ _ cs=>bg cs
 | .ptr cs _=>bg cs
 | .optr cs=>bg cs
 | .agg cs=>bg cs
 | .tup cs=>bg cs
 | .fn _ cs=>bg cs
 | .rmap _ _ cs=>bg cs
 | .omap _ _ cs=>bg cs
 | .mref i _=>[i]
 | _=>[]
def bg:List HV->List Nat
 | []=>[]
 | v::r=>v.deep++bg r
end
def HV.inn (p:Nat->Prop) (v:HV):Prop:=∀x∈v.deep,p x
def innL (p:Nat->Prop) (l:List HV):Prop:=∀v∈l,v.inn p
theorem mem_deepL {x:Nat} {l:List HV}:x∈bg l <-> ∃v∈l,x∈v.deep:=by
 induction l with
 | nil=>simp [bg]
 | cons v r ih=>simp [bg,ih]
theorem innL_iff {p:Nat->Prop} {l:List HV}:innL p l <-> ∀x∈bg l,p x:=by
 unfold innL HV.inn
 constructor
 ·intro h x hx
  obtain ⟨v,hv,hx⟩:=mem_deepL.1 hx
  exact h v hv x hx
 ·intro h v hv x hx
  exact h x (mem_deepL.2 ⟨v,hv,hx⟩)
section
variable {p:Nat->Prop}
@[simp] theorem jM {k n}:(HV.int k n).inn p:=by simp [HV.inn,HV.deep]
@[simp] theorem lu {b}:(HV.bool b).inn p:=by simp [HV.inn,HV.deep]
@[simp] theorem Pg {b}:(HV.str b).inn p:=by simp [HV.inn,HV.deep]
@[simp] theorem VD:HV.nils.inn p:=by simp [HV.inn,HV.deep]
@[simp] theorem YQ:HV.nilp.inn p:=by simp [HV.inn,HV.deep]
@[simp] theorem Zc:HV.nilf.inn p:=by simp [HV.inn,HV.deep]
@[simp] theorem di:HV.dead.inn p:=by simp [HV.inn,HV.deep]
@[simp] theorem Bv {i q sz o n}:(HV.ref i q sz o n).inn p <-> p i:=by simp [HV.inn,HV.deep]
@[simp] theorem uj {i q o}:(HV.pref i q o).inn p <-> p i:=by simp [HV.inn,HV.deep]
@[simp] theorem MV {n cs}:(HV.sl n cs).inn p <-> innL p cs:=by rw [innL_iff];rfl
@[simp] theorem rU {sz n cs}:(HV.osl sz n cs).inn p <-> innL p cs:=by rw [innL_iff];rfl
@[simp] theorem wJ {n cs}:(HV.ptr cs n).inn p <-> innL p cs:=by rw [innL_iff];rfl
@[simp] theorem D7 {cs}:(HV.optr cs).inn p <-> innL p cs:=by rw [innL_iff];rfl
@[simp] theorem nK {cs}:(HV.agg cs).inn p <-> innL p cs:=by rw [innL_iff];rfl
@[simp] theorem rM {cs}:(HV.tup cs).inn p <-> innL p cs:=by rw [innL_iff];rfl
@[simp] theorem vH {f cs}:(HV.fn f cs).inn p <-> innL p cs:=by rw [innL_iff];rfl
@[simp] theorem Xf:HV.nilm.inn p:=by simp [HV.inn,HV.deep]
@[simp] theorem YC {b s l c}:(HV.oitr b s l c).inn p:=by simp [HV.inn,HV.deep]
@[simp] theorem uq {i q}:(HV.mref i q).inn p <-> p i:=by simp [HV.inn,HV.deep]
@[simp] theorem yf {m ks cs}:(HV.rmap m ks cs).inn p <-> innL p cs:=by rw [innL_iff];rfl
@[simp] theorem oH {m ks cs}:(HV.omap m ks cs).inn p <-> innL p cs:=by rw [innL_iff];rfl
@[simp] theorem Ec:innL p []:=by simp [innL]
@[simp] theorem aV {v l}:innL p (v::l) <-> v.inn p/\innL p l:=by simp [innL]
@[simp] theorem vZ {l l'}:innL p (l++l') <-> innL p l/\innL p l':=by
 simp only [innL,List.mem_append]
 exact ⟨fun h=>⟨fun v hv=>h v (.inl hv),fun v hv=>h v (.inr hv)⟩,fun h v hv=>hv.elim (h.1 v) (h.2 v)⟩
theorem innL.take {l} (h:innL p l) (n:Nat):innL p (l.take n):=fun v hv=>h v (List.mem_of_mem_take hv)
theorem innL.drop {l} (h:innL p l) (n:Nat):innL p (l.drop n):=fun v hv=>h v (List.mem_of_mem_drop hv)
theorem innL.win {l} (h:innL p l) (a b:Nat):innL p (win l a b):=by
 unfold HL.win;split
 ·exact h
 ·exact (h.drop _).take _
theorem innL.getD {l} (h:innL p l) (n:Nat):(l.getD n .dead).inn p:=by
 rw [List.getD_eq_getElem?_getD]
 cases hn:l[n]? with
 | none=>simp
 | some v=>exact h v (List.mem_of_getElem? hn)
theorem innL.set {l} (h:innL p l) (n:Nat) {v:HV} (hv:v.inn p):innL p (l.set n v):=fun u hu=>by
 rcases List.mem_or_eq_of_mem_set hu with hu|rfl
 ·exact h u hu
 ·exact hv
theorem kD {v:HV} (h:v.inn p) (q:List Nat):(aG v q).inn p:=by
 induction q generalizing v with
 | nil=>simpa [aG] using h
 | cons j q ih =>
  cases v<;>simp only [aG,di]
  ·exact ih (innL.getD (by simpa using h) j)
  ·exact ih (innL.getD (by simpa using h) j)
  ·exact ih (innL.getD (by simpa using h) j)
theorem uK {x v:HV} (hx:x.inn p) (h:v.inn p) (q:List Nat):(dK x v q).inn p:=by
 induction q generalizing v with
 | nil=>simpa [dK] using hx
 | cons j q ih =>
  cases v<;>simp only [dK]<;>(first|exact h|skip)
  ·simp only [rU] at h ⊢
   exact h.set j (ih (h.getD j))
  ·simp only [D7] at h ⊢
   exact h.set j (ih (h.getD j))
  ·simp only [oH] at h ⊢
   exact h.set j (ih (h.getD j))
theorem xy {v:HV} (h:v.inn p):innL p (bz v):=by cases v<;>simp_all [bz]
theorem DX {v:HV} {cs:List HV} (h:v.inn p) (hc:innL p cs):(dD cs v).inn p:=by cases v<;>simp_all [dD]
theorem qw {cs l:List HV} (h:innL p cs) (hl:innL p l) (o:Nat):innL p (setFrom cs o l):=by
 induction l generalizing cs o with
 | nil=>simpa [setFrom] using h
 | cons v r ih =>
  simp only [aV] at hl
  exact ih (h.set o hl.1) hl.2 (o+1)
theorem rQ {v:HV} (h:v.inn p):innL p (cellsOf v):=by
 unfold cellsOf;split
 ·simpa using h
 ·simpa using h
theorem Dx {v:HV} {id j:Nat} {q:List Nat} (hi:p id) (h:v.inn p):(look id q j v).inn p:=by
 unfold look
 split<;>(try split)<;>first|exact di|exact h|simpa using hi
theorem Dz {zs:List HV} {ps:List (Nat×Nat×HV)} (h:innL p zs) (hp:∀q∈ps,q.2.2.inn p):innL p (jQ zs ps).1:=by
 induction ps generalizing zs with
 | nil=>exact h
 | cons q r ih =>
  obtain ⟨o,sz,v⟩:=q
  simp only [jQ]
  exact ih (qw h (rQ (hp (o,sz,v) (by simp))) o) fun q hq=>hp q (by simp [hq])
def Pi (p:Nat->Prop):Upd->Prop
 | .put id t=>p id/\t.inn p
 | .kill ..=>True
def ig:List Upd->List Nat
 | []=>[]
 | .put id _::r=>id::ig r
 | .kill ..::r=>ig r
theorem vV (a b:List Upd):ig (a++b)=ig a++ig b:=by
 induction a with
 | nil=>rfl
 | cons u a ih=>cases u<;>simp [ig,ih]
theorem Pm {L:Lk} {us:List Upd} (h:∀id,(L id).inn p) (hu:∀u∈us,Pi p u) (id:Nat):(Lk.upd L us id).inn p:=by
 induction us generalizing L with
 | nil=>exact h id
 | cons u us ih =>
  cases u with
  | put i t =>
   refine ih (L:=fun j=>if j=i then t else L j) (fun j=>?_) fun u hu'=>hu u (by simp [hu'])
   split
   ·exact (hu (.put i t) (by simp)).2
   ·exact h j
  | kill i n=>exact ih h fun u hu'=>hu u (by simp [hu'])
theorem kV {L:Lk} {us:List Upd} {id:Nat} (h:id ∉ ig us):Lk.upd L us id=L id:=by
 induction us generalizing L with
 | nil=>rfl
 | cons u us ih =>
  cases u with
  | put i t =>
   simp only [ig,List.mem_cons,not_or] at h
   simp only [Lk.upd]
   rw [ih h.2,if_neg h.1]
  | kill i n=>exact ih h
theorem tK {L L':Lk} {us:List Upd} {id:Nat} (h:id∈ig us\/L id=L' id):Lk.upd L us id=Lk.upd L' us id:=by
 induction us generalizing L L' with
 | nil=>rcases h with h|h;cases h;exact h
 | cons u us ih =>
  cases u with
  | put i t =>
   simp only [Lk.upd]
   refine ih ?_
   simp only [ig,List.mem_cons] at h
   by_cases hi:id=i
   ·right;simp [hi]
   ·rcases h with (h|h)|h
    ·exact absurd h hi
    ·exact .inl h
    ·right;simp [hi,h]
  | kill i n=>exact ih h
end
def JB (D:List Nat) (p:Nat->Prop):Upd->Prop
 | .put id t=>id∈D/\t.inn p
 | .kill ..=>True
section
variable {p:Nat->Prop} {L L':Lk} {D:List Nat}
theorem cu {v:HV} (hv:v.inn p) (hD:∀x∈v.deep,x∈D) (hL:∀id,(L id).inn p):(takeC L v).1.inn p/\(∀u∈(takeC L v).2.1,JB D p u)/\∀u∈(takeC L v).2.1,∃id t,u=.put id t:=by
 unfold takeC
 split
 ·rename_i id _ off n
  have:=hL id
  split
  ·rename_i sz m cs h
   rw [h] at this
   exact ⟨this,by simp [JB];exact hD id (by simp [HV.deep]),by simp⟩
  ·simp
 ·rename_i id off
  have:=hL id
  split
  ·rename_i cs h
   rw [h] at this
   exact ⟨this,by simp [JB];exact hD id (by simp [HV.deep]),by simp⟩
  ·simp
 ·rename_i id
  have:=hL id
  split
  ·rename_i m ks cs h
   rw [h] at this
   exact ⟨this,by simp [JB];exact hD id (by simp [HV.deep]),by simp⟩
  ·simp
 all_goals first|exact ⟨hv,by simp,by simp⟩|simp
theorem dJ {v:HV} (h:∀x∈v.deep,L x=L' x):takeC L v=takeC L' v:=by
 unfold takeC
 split<;>first|rfl|skip
 ·rename_i id _ off n;rw [h id (by simp [HV.deep])]
 ·rename_i id off;rw [h id (by simp [HV.deep])]
 ·rename_i id;rw [h id (by simp [HV.deep])]
theorem uJ (hL:∀id,(L id).inn p) {us:List Upd} (h:∀u∈us,JB D p u) (id:Nat):(Lk.upd L us id).inn p:=by
 induction us generalizing L with
 | nil=>exact hL id
 | cons u us ih =>
  cases u with
  | put i t =>
   refine ih (L:=fun j=>if j=i then t else L j) (fun j=>?_) fun u hu'=>h u (by simp [hu'])
   split
   ·exact (h (.put i t) (by simp)).2
   ·exact hL j
  | kill i n=>exact ih hL fun u hu'=>h u (by simp [hu'])
theorem yl {l:List HV}:∀ {L:Lk},innL p l->(∀x∈bg l,x∈D)->(∀id,(L id).inn p)->innL p (fU L l).1/\(∀u∈(fU L l).2.1,JB D p u)/\∀u∈(fU L l).2.1,∃id t,u=.put id t:=by
 induction l with
 | nil=>intro L h hD hL;simp [fU]
 | cons v r ih =>
  intro L h hD hL
  simp only [aV] at h
  simp only [bg,List.mem_append] at hD
  obtain ⟨a1,a2,a3⟩:=cu (L:=L) h.1 (fun x hx=>hD x (.inl hx)) hL
  obtain ⟨b1,b2,b3⟩:=ih (L:=Lk.upd L (takeC L v).2.1) h.2 (fun x hx=>hD x (.inr hx)) (uJ hL a2)
  simp only [fU,aV,List.mem_append]
  exact ⟨⟨a1,b1⟩,fun u hu=>hu.elim (a2 u) (b2 u),fun u hu=>hu.elim (a3 u) (b3 u)⟩
theorem qJ {l:List HV}:∀ {L L':Lk},(∀x∈bg l,L x=L' x)->fU L l=fU L' l:=by
 induction l with
 | nil=>intros;rfl
 | cons v r ih =>
  intro L L' h
  simp only [bg,List.mem_append] at h
  have e1:=dJ (L:=L) (L':=L') fun x hx=>h x (.inl hx)
  have e2:=ih (L:=Lk.upd L (takeC L v).2.1) (L':=Lk.upd L' (takeC L v).2.1) fun x hx=>tK (.inr (h x (.inr hx)))
  simp only [fU,<- e1,e2]
end
end Go.HL
end
section
namespace Go.HL
open Go.RowKit
def HOp.vals {α:Type}:HOp α->List α
 | .mv _ x=>[x]|.pick c a b=>[c,a,b]|.bin _ x y=>[x,y]|.beq _ x y=>[x,y]|.aeq _ _ x y=>[x,y]|.un _ x=>[x]|.conv _ x=>[x]
 | .newv _ x=>[x]|.newz _=>[]|.bld _ ps=>ps.map (·.2.2)|.bsl _ _ xs=>xs|.load _ _ x=>[x]|.store _ _ x y=>[x,y]|.nilck x=>[x]
 | .mkfn _ xs=>xs|.mksl _ _ _ l=>[l]|.slc _ x lo hi=>x::(lo.toList++hi.toList)|.faddr _ x=>[x]|.fld _ _ _ x=>[x]|.iaddr _ x i=>[x,i]|.ext x _=>[x]
 | .len x=>[x]|.app _ _ _ s x=>[s,x]|.mm _ x y=>[x,y]|.cpy x y=>[x,y]|.slz _ x=>[x]|.isn _ x=>[x]
 | .mnil _ x=>[x]|.mkmap _=>[]|.mlook _ _ _ x k=>[x,k]|.mset _ x k v=>[x,k,v]|.mlen x=>[x]|.mrng x=>[x]|.mnxt x=>[x]|.ment x=>[x]|.tostr x=>[x]|.call _ xs=>xs|.callv x xs=>x::xs|.bi _ _ _ xs=>xs|.bad=>[]
def HOp.lits {α:Type}:HOp α->List HV
 | .newz zs=>zs|.bld zs _=>zs|.mksl _ _ z _=>z|.mlook _ _ z _ _=>[z]|_=>[]
def HOp.wrt {α:Type}:HOp α->Bool
 | .newv ..=>true|.bsl ..=>true|.store ..=>true|.app ..=>true|.cpy ..=>true|.mset ..=>true|_=>false
def HOp.touch {α:Type}:HOp α->Bool
 | .newv ..=>true|.bsl ..=>true|.store ..=>true|.app ..=>true|.cpy ..=>true|.load ..=>true|.mset ..=>true|.mlook ..=>true|.mlen _=>true|.mnil ..=>true|.tostr _=>true|.call ..=>true|.callv ..=>true|.bi ..=>true|_=>false
def HOp.killer {α:Type}:HOp α->Bool
 | .store f ..=>!f|.mset ..=>true|_=>false
def HOp.wrtO {α:Type} (own:FuncId->Bool):HOp α->Bool
 | .call f _=>own f
 | op=>op.wrt
theorem HOp.wrtO_map {α β:Type} (own:FuncId->Bool) (g:α->β) (o:HOp α):(o.map g).wrtO own=o.wrtO own:=by cases o<;>rfl
theorem HOp.wrtO_of {α:Type} (own:FuncId->Bool) {o:HOp α} (h:o.wrt=true):o.wrtO own=true:=by cases o<;>first|exact h|cases h
theorem HOp.wrtO_no {α:Type} (o:HOp α):o.wrtO (fun _=>false)=o.wrt:=by cases o<;>rfl
theorem HOp.vals_map {α β:Type} (g:α->β) (o:HOp α):(o.map g).vals=o.vals.map g:=by
 cases o<;>simp [HOp.vals,HOp.map]
 rename_i lo hi;cases lo<;>cases hi<;>simp
theorem HOp.lits_map {α β:Type} (g:α->β) (o:HOp α):(o.map g).lits=o.lits:=by cases o<;>rfl
theorem HOp.touch_map {α β:Type} (g:α->β) (o:HOp α):(o.map g).touch=o.touch:=by cases o<;>rfl
theorem HOp.killer_map {α β:Type} (g:α->β) (o:HOp α):(o.map g).killer=o.killer:=by cases o<;>rfl
def Yd (mk:Nat->HV):Prop:=(∃sz n,mk=fun fr=>.ref fr [] sz 0 n)\/(mk=fun fr=>.pref fr [] 0)\/mk=fun fr=>.mref fr []
section
variable {p:Nat->Prop} {L L':Lk} {D:List Nat}
def Shape (L:Lk) (p:Nat->Prop) (D:List Nat) (op:HOp HV):Prop :=
 ∃us0,(∀u∈us0,JB D p u)/\(op.wrt=false->us0=[])/\(op.killer=false->∀u∈us0,∃id t,u=.put id t) /\
  ((∃v q,v.inn p/\∀fr,az L fr op=(v,us0,q))\/(∃mk T q,Yd mk/\T.inn p/\∀fr,az L fr op=(mk fr,us0++[.put fr T],q)))
theorem Shape.pure {op:HOp HV} (h:∀fr,az L fr op=az L 0 op) (h1:(az L 0 op).2.1=[]) (h2:(az L 0 op).1.inn p):Shape L p D op :=
 ⟨[],by simp,fun _=>rfl,by simp,.inl ⟨_,_,h2,fun fr=>by rw [h fr,<- h1]⟩⟩
theorem Shape.dead {op:HOp HV} {q:Prop} (h:∀fr,az L fr op=(.dead,[],q)):Shape L p D op:=⟨[],by simp,fun _=>rfl,by simp,.inl ⟨_,_,di,h⟩⟩
theorem Shape.mk {op:HOp HV} {mk:Nat->HV} {us0:List Upd} {T:HV} {q:Prop} (h:∀fr,az L fr op=(mk fr,us0++[.put fr T],q)) (hm:Yd mk) (hT:T.inn p) (hu:∀u∈us0,JB D p u) (hw:op.wrt=false->us0=[]) (hk:∀u∈us0,∃id t,u=.put id t):Shape L p D op :=
 ⟨us0,hu,hw,fun _=>hk,.inr ⟨mk,T,q,hm,hT,h⟩⟩
theorem FV {op:BinOp} {x y:HV}:(Em op x y).1.inn p:=by
 unfold Em
 split<;>(try split)<;>first|exact jM|exact lu|exact di
theorem Ib {l:List HV} (h:innL p l):innL p (l.flatMap cellsOf):=fun v hv=>by
 obtain ⟨u,hu,hv⟩:=List.mem_flatMap.1 hv
 exact rQ (h u hu) v hv
theorem mO {v:HV} {x:Nat} (h:x∈bg (cellsOf v)):x∈v.deep:=by
 unfold cellsOf at h
 split at h
 ·exact h
 ·simpa [bg] using h
theorem uQ {l:List HV} {x:Nat} (h:x∈bg (l.flatMap cellsOf)):x∈bg l:=by
 rw [mem_deepL] at h ⊢
 obtain ⟨v,hv,hx⟩:=h
 obtain ⟨u,hu,hv⟩:=List.mem_flatMap.1 hv
 exact ⟨u,hu,mO (mem_deepL.2 ⟨v,hv,hx⟩)⟩
theorem GV {fl:Bool} {sz:Nat} {v:HV} (hv:v.inn p) (hD:∀x∈v.deep,x∈D) (hL:∀id,(L id).inn p):innL p (dW L fl sz v).2.1/\(∀u∈(dW L fl sz v).2.2.1,JB D p u)/\∀u∈(dW L fl sz v).2.2.1,∃id t,u=.put id t:=by
 unfold dW
 split
 ·simp
 ·exact ⟨by simpa using hv,by simp,by simp⟩
 ·rename_i id q sz' off m
  have:=kD (hL id) q
  split
  ·rename_i cs h
   rw [h] at this
   simp only [rU] at this
   split
   ·exact ⟨this.win _ _,by simp,by simp⟩
   ·exact ⟨this,by simp [JB];exact hD id (by simp [HV.deep]),by simp⟩
  ·simp
 ·simp
theorem xM {fl:Bool} {sz:Nat} {v:HV} (h:∀x∈v.deep,L x=L' x):dW L fl sz v=dW L' fl sz v:=by
 unfold dW
 split<;>first|rfl|skip
 ·rename_i id q sz' off m;rw [h id (by simp [HV.deep])]
theorem nP {ok b:Bool} {v:HV} (h:v.inn p):(okV ok v b).inn p:=by cases ok<;>simp [okV,h]
theorem zK {cs:List HV}:(strOf cs).1.inn p:=by unfold strOf;split<;>simp
theorem zQ {cs:List HV}:(strOf cs).2.1=[]:=by unfold strOf;split<;>rfl
theorem Le {m:MK} {ks cs:List HV} {k v:HV} (h:innL p cs) (hv:v.inn p):(rX m ks cs k v).inn p:=by
 unfold rX
 split
 ·simp only [oH];exact h.set _ hv
 ·simp only [oH,vZ,aV,Ec,and_true];exact ⟨h,hv⟩
theorem xC {op:HOp HV} (hv:innL p op.vals) (hD:∀x∈bg op.vals,x∈D) (hl:innL p op.lits) (hL:∀id,(L id).inn p):Shape L p D op:=by
 cases op
 case mv nz v =>
  simp only [HOp.vals,aV] at hv
  cases nz with
  | zero=>exact .pure (fun _=>rfl) rfl hv.1
  | succ k=>cases v<;>first|exact .mk (mk:=fun fr=>.ref fr [] (k+1) 0 0) (us0:=[]) (T:=.osl (k+1) 0 []) (q:=True) (fun _=>rfl) (.inl ⟨_,_,rfl⟩) (by simp) (by simp) (fun _=>rfl) (by simp)|exact .pure (fun _=>rfl) rfl hv.1
 case pick c a b =>
  simp only [HOp.vals,aV] at hv
  cases c<;>first|exact .dead fun _=>rfl|skip
  rename_i t
  refine .pure (fun _=>rfl) ?_ ?_<;>simp only [az]<;>split<;>first|rfl|exact lu|(split<;>first|exact hv.2.1|exact hv.2.2.1)
 case bin op x y=>exact .pure (fun _=>rfl) rfl FV
 case beq ne x y=>refine .pure (fun _=>rfl) ?_ ?_<;>simp only [az]<;>split<;>first|rfl|exact lu|exact di
 case aeq ne n x y=>refine .pure (fun _=>rfl) ?_ ?_<;>simp only [az]<;>split<;>first|rfl|exact lu|exact di
 case un op x=>refine .pure (fun _=>rfl) ?_ ?_<;>simp only [az]<;>split<;>first|rfl|exact lu|exact di|exact jM
 case conv k x=>refine .pure (fun _=>rfl) ?_ ?_<;>simp only [az]<;>split<;>first|rfl|exact di|exact jM
 case newv sz x =>
  simp only [HOp.vals,aV,bg,List.append_nil] at hv hD
  obtain ⟨a1,a2,a3⟩:=yl (D:=D) (rQ hv.1) (fun x hx=>hD x (mO hx)) hL
  exact .mk (mk:=fun fr=>.pref fr [] 0) (fun _=>rfl) (.inr (.inl rfl)) (by simpa using a1) a2 (fun h=>by cases h) a3
 case newz zs=>exact .mk (mk:=fun fr=>.pref fr [] 0) (us0:=[]) (T:=.optr zs) (q:=True) (fun _=>rfl) (.inr (.inl rfl)) (by simpa [HOp.lits] using hl) (by simp) (fun _=>rfl) (by simp)
 case bld zs ps =>
  refine .pure (fun _=>rfl) rfl ?_
  simp only [az,nK]
  exact Dz hl fun q hq=>hv q.2.2 (List.mem_map_of_mem hq)
 case bsl sz n xs =>
  obtain ⟨a1,a2,a3⟩:=yl (D:=D) (Ib (p:=p) (l:=xs) hv) (fun x hx=>hD x (uQ hx)) hL
  exact .mk (mk:=fun fr=>.ref fr [] sz 0 n) (fun _=>rfl) (.inl ⟨_,_,rfl⟩) (by simpa using a1) a2 (fun h=>by cases h) a3
 case load a sz x =>
  simp only [HOp.vals,aV] at hv
  cases x<;>first|exact .dead fun _=>rfl|skip
  ·have h1:=hv.1
   simp only [wJ] at h1
   cases a
   ·exact .pure (fun _=>rfl) rfl (h1.getD _)
   ·exact .pure (fun _=>rfl) rfl (by simp only [az];simpa using h1.win _ _)
  ·rename_i id q off
   have h1:=hv.1
   simp only [uj] at h1
   have h2:=xy (kD (hL id) q)
   cases a
   ·exact .pure (fun _=>rfl) rfl (Dx h1 (h2.getD _))
   ·exact .pure (fun _=>rfl) rfl (by simp only [az];simpa using h2.win _ _)
 case store fl sz x y =>
  simp only [HOp.vals,aV,bg,List.append_nil,List.mem_append] at hv hD
  cases x<;>first|exact .dead fun _=>rfl|skip
  rename_i id q off
  obtain ⟨a1,a2,a3⟩:=yl (D:=D) (rQ hv.2.1) (fun x hx=>hD x (.inr (mO hx))) hL
  have ht:=uJ hL a2 id
  refine ⟨(az L 0 (.store fl sz (.pref id q off) y)).2.1,?_,(fun h=>by cases h),?_,.inl ⟨_,_,?_,fun _=>rfl⟩⟩
  ·intro u hu
   simp only [az,List.mem_append,List.mem_singleton] at hu
   rcases hu with (hu|hu)|rfl
   ·exact a2 u hu
   ·cases fl<;>simp at hu
    subst hu;trivial
   ·exact ⟨hD id (.inl (by simp [HV.deep])),uK (DX (kD ht q) (qw (xy (kD ht q)) a1 off)) ht q⟩
  ·intro hk u hu
   simp only [HOp.killer,Bool.not_eq_false'] at hk
   subst hk
   simp only [az,List.mem_append,List.mem_singleton,if_true,List.not_mem_nil,or_false] at hu
   rcases hu with hu|rfl
   ·exact a3 u hu
   ·exact ⟨_,_,rfl⟩
  ·exact di
 case nilck x =>
  simp only [HOp.vals,aV] at hv
  cases x<;>first|exact .dead fun _=>rfl|exact .pure (fun _=>rfl) rfl hv.1
 case mkfn f xs=>exact .pure (fun _=>rfl) rfl (by simp only [az,vH];exact hv)
 case mksl sz bytes z l =>
  cases l<;>first|exact .dead fun _=>rfl|skip
  rename_i k n
  cases k<;>first|exact .dead fun _=>rfl|skip
  refine .mk (mk:=fun fr=>.ref fr [] sz 0 n.toNat) (us0:=[]) (fun _=>rfl) (.inl ⟨_,_,rfl⟩) ?_ (by simp) (fun _=>rfl) (by simp)
  simp only [rU]
  intro v hv'
  obtain ⟨l,hl',hv'⟩:=List.mem_flatten.1 hv'
  rw [List.mem_replicate] at hl'
  rw [hl'.2] at hv'
  exact hl v hv'
 case slc sz x lo hi =>
  simp only [HOp.vals,aV] at hv
  refine .pure (fun _=>rfl) ?_ ?_
  ·simp only [az]
   repeat' split
   all_goals rfl
  ·simp only [az]
   split
   ·split
    ·split
     ·simp only [MV];exact innL.win (by simpa using hv.1) _ _
     ·exact di
    ·split
     ·simpa using hv.1
     ·exact di
    ·exact di
   ·exact di
 case faddr d x =>
  simp only [HOp.vals,aV] at hv
  cases x<;>first|exact .dead fun _=>rfl|exact .pure (fun _=>rfl) rfl (by simpa [az] using hv.1)
 case fld a sz off x =>
  simp only [HOp.vals,aV] at hv
  cases x<;>first|exact .dead fun _=>rfl|skip
  have h1:=hv.1
  simp only [nK] at h1
  cases a
  ·exact .pure (fun _=>rfl) rfl (h1.getD _)
  ·exact .pure (fun _=>rfl) rfl (by simp only [az];simpa using h1.win _ _)
 case iaddr sz x i =>
  simp only [HOp.vals,aV] at hv
  cases i<;>first|exact .dead fun _=>rfl|skip
  cases x<;>first|exact .dead fun _=>rfl|exact .pure (fun _=>rfl) rfl (by simpa [az] using hv.1)
 case ext x i =>
  simp only [HOp.vals,aV] at hv
  cases x<;>first|exact .dead fun _=>rfl|skip
  have h1:=hv.1
  simp only [rM] at h1
  exact .pure (fun _=>rfl) rfl (h1.getD _)
 case len x=>cases x<;>first|exact .dead fun _=>rfl|exact .pure (fun _=>rfl) rfl jM
 case app fl sz bytes x y =>
  simp only [HOp.vals,aV,bg,List.append_nil,List.mem_append] at hv hD
  obtain ⟨a1,a2,a3⟩:=GV (D:=D) (fl:=fl) (sz:=sz) hv.2.1 (fun x hx=>hD x (.inr hx)) hL
  cases x<;>first|exact .dead fun _=>rfl|skip
  ·exact .mk (mk:=fun fr=>.ref fr [] sz 0 (dW L fl sz y).1) (fun _=>rfl) (.inl ⟨_,_,rfl⟩) (by simpa using a1) a2 (fun h=>by cases h) a3
  ·rename_i id q sz' off n
   have ht:=uJ hL a2 id
   have hn:=kD ht q
   simp only [Shape]
   generalize htt:Lk.upd L (dW L fl sz y).2.2.1 id=t at ht hn
   generalize hnn:aG t q=nd at hn
   have dd:(∀fr,az L fr (.app fl sz bytes (.ref id q sz' off n) y)=(.dead,[],False))->Shape L p D (.app fl sz bytes (.ref id q sz' off n) y):=fun h=>.dead h
   cases nd with
   | osl s m cs =>
    simp only [rU] at hn
    refine Shape.mk (mk:=fun fr=>.ref fr [] sz 0 (n+(dW L fl sz y).1)) (us0:=(dW L fl sz y).2.2.1++[.put id (dK .dead t q)]) (T:=.osl sz (n+(dW L fl sz y).1) (win cs off (n*sz)++(dW L fl sz y).2.1))
     (q:=(dW L fl sz y).2.2.2/\(n+(dW L fl sz y).1)*bytes<=140737488355328/\n+(dW L fl sz y).1<=maxLen/\sz'=sz/\off+n*sz<=cs.length) (fun fr=>?_) (.inl ⟨_,_,rfl⟩) ?_ ?_ (fun h=>by cases h) ?_
    ·simp only [az,htt,hnn,List.append_assoc,List.cons_append,List.nil_append]
    ·simp only [rU,vZ];exact ⟨hn.win _ _,a1⟩
    ·intro u hu
     simp only [List.mem_append,List.mem_singleton] at hu
     rcases hu with hu|rfl
     ·exact a2 u hu
     ·exact ⟨hD id (.inl (by simp [HV.deep])),uK di ht q⟩
    ·intro u hu
     simp only [List.mem_append,List.mem_singleton] at hu
     rcases hu with hu|rfl
     ·exact a3 u hu
     ·exact ⟨_,_,rfl⟩
   | _=>exact dd fun fr=>by simp only [az,htt,hnn]
 case mm mx x y=>refine .pure (fun _=>rfl) ?_ ?_<;>simp only [az]<;>split<;>first|rfl|exact jM|exact di
 case cpy x y =>
  simp only [HOp.vals,aV,bg,List.append_nil,List.mem_append] at hv hD
  obtain ⟨a1,_,_⟩:=GV (D:=D) (fl:=true) (sz:=1) hv.2.1 (fun x hx=>hD x (.inr hx)) hL
  cases x<;>first|exact .dead fun _=>rfl|skip
  rename_i id q sz' off n
  refine ⟨(az L 0 (.cpy (.ref id q sz' off n) y)).2.1,?_,(fun h=>by cases h),?_,.inl ⟨_,_,?_,fun _=>rfl⟩⟩
  ·intro u hu
   simp only [az,List.mem_singleton] at hu
   subst hu
   exact ⟨hD id (.inl (by simp [HV.deep])),uK (DX (kD (hL id) q) (qw (xy (kD (hL id) q)) (fun v hv=>a1 v (List.mem_of_mem_take hv)) off)) (hL id) q⟩
  ·intro _ u hu
   simp only [az,List.mem_singleton] at hu
   subst hu
   exact ⟨_,_,rfl⟩
  ·exact jM
 case slz sz x =>
  cases x<;>first|exact .dead fun _=>rfl|exact .mk (mk:=fun fr=>.ref fr [] sz 0 0) (us0:=[]) (T:=.osl sz 0 []) (q:=True) (fun _=>rfl) (.inl ⟨_,_,rfl⟩) (by simp) (by simp) (fun _=>rfl) (by simp)
 case isn ne x=>refine .pure (fun _=>?_) ?_ ?_<;>simp only [az]<;>cases x<;>first|rfl|exact lu|exact di
 case mnil ne x =>
  cases x<;>first|exact .dead fun _=>rfl|exact .pure (fun _=>rfl) rfl lu|skip
  rename_i id q
  generalize hnn:aG (L id) q=nd
  cases nd with
  | omap m ks cs=>exact .pure (fun _=>by simp only [az]) (by simp only [az,hnn]) (by simp only [az,hnn];exact lu)
  | _=>exact .dead (q:=False) fun fr=>by simp only [az,hnn]
 case mkmap kk=>exact .mk (mk:=fun fr=>.mref fr []) (us0:=[]) (T:=.omap ⟨kk,none⟩ [] []) (q:=True) (fun _=>rfl) (.inr (.inr rfl)) (by simp) (by simp) (fun _=>rfl) (by simp)
 case mlook ok kk z x k =>
  simp only [HOp.vals,aV] at hv
  simp only [HOp.lits,aV] at hl
  refine .pure (fun _=>rfl) ?_ ?_
  ·simp only [az]
   repeat' split
   all_goals rfl
  ·simp only [az]
   split
   ·exact nP hl.1
   ·rename_i m ks cs
    have h1:=hv.1
    simp only [yf] at h1
    split
    ·exact nP (h1.getD _)
    ·exact nP hl.1
   ·rename_i id q
    have h1:=hv.1
    simp only [uq] at h1
    have h2:=kD (hL id) q
    split
    ·rename_i m ks cs hnn
     rw [hnn] at h2
     simp only [oH] at h2
     split
     ·exact nP (Dx h1 (h2.getD _))
     ·exact nP hl.1
    ·exact di
   ·exact di
 case mset kk x k v =>
  simp only [HOp.vals,aV,bg,List.append_nil,List.mem_append] at hv hD
  cases x<;>first|exact .dead fun _=>rfl|skip
  rename_i id q
  obtain ⟨a1,a2,a3⟩:=cu (D:=D) hv.2.2.1 (fun x hx=>hD x (.inr (.inr hx))) hL
  have ht:=uJ hL a2 id
  generalize hnn:aG (Lk.upd L (takeC L v).2.1 id) q=nd
  cases nd with
  | omap m ks cs =>
   have hcs:=kD ht q
   rw [hnn] at hcs
   simp only [oH] at hcs
   refine ⟨(takeC L v).2.1++[.kill id q.length]++[.put id (dK (rX m ks cs k (takeC L v).1) (Lk.upd L (takeC L v).2.1 id) q)],?_,(fun h=>by cases h),(fun h=>by cases h),.inl ⟨.dead,(takeC L v).2.2/\m.kind=kk/\dO kk k=true,di,fun fr=>by simp only [az,hnn]⟩⟩
   intro u hu
   simp only [List.mem_append,List.mem_singleton] at hu
   rcases hu with (hu|rfl)|rfl
   ·exact a2 u hu
   ·trivial
   ·exact ⟨hD id (.inl (by simp [HV.deep])),uK (Le hcs a1) ht q⟩
  | _=>exact .dead (q:=False) fun fr=>by simp only [az,hnn]
 case mlen x =>
  cases x<;>first|exact .dead fun _=>rfl|exact .pure (fun _=>rfl) rfl jM|skip
  rename_i id q
  generalize hnn:aG (L id) q=nd
  cases nd with
  | omap m ks cs=>exact .pure (fun _=>by simp only [az]) (by simp only [az,hnn]) (by simp only [az,hnn];exact jM)
  | _=>exact .dead (q:=False) fun fr=>by simp only [az,hnn]
 case mrng=>exact .dead fun _=>rfl
 case mnxt=>exact .dead fun _=>rfl
 case ment=>exact .dead fun _=>rfl
 case tostr x =>
  cases x<;>first|exact .dead fun _=>rfl|exact .pure (fun _=>rfl) rfl Pg|exact .pure (fun _=>rfl) zQ zK|skip
  rename_i id q sz off n
  generalize hnn:aG (L id) q=nd
  cases nd with
  | osl s m cs=>exact .pure (fun _=>by simp only [az]) (by simp only [az,hnn];exact zQ) (by simp only [az,hnn];exact zK)
  | _=>exact .dead (q:=False) fun fr=>by simp only [az,hnn]
 case call=>exact .dead fun _=>rfl
 case callv=>exact .dead fun _=>rfl
 case bi=>exact .dead fun _=>rfl
 case bad=>exact .dead fun _=>rfl
theorem yJ {op:HOp HV} (h:∀x∈bg op.vals,L x=L' x) (fr:Nat):az L fr op=az L' fr op:=by
 cases op<;>first|rfl|skip
 case newv sz x =>
  simp only [HOp.vals,bg,List.append_nil] at h
  simp only [az,qJ (L:=L) (L':=L') (l:=cellsOf x) fun x hx=>h x (mO hx)]
 case bsl sz n xs=>simp only [az,qJ (L:=L) (L':=L') (l:=xs.flatMap cellsOf) fun x hx=>h x (uQ hx)]
 case load a sz x =>
  cases x<;>first|rfl|skip
  rename_i id q off
  have:=h id (by simp [HOp.vals,bg,HV.deep])
  simp only [az,this]
 case store fl sz x y =>
  cases x<;>first|rfl|skip
  rename_i id q off
  simp only [HOp.vals,bg,List.append_nil,List.mem_append] at h
  have e1:=qJ (L:=L) (L':=L') (l:=cellsOf y) fun x hx=>h x (.inr (mO hx))
  have e2:Lk.upd L (fU L' (cellsOf y)).2.1 id=Lk.upd L' (fU L' (cellsOf y)).2.1 id:=tK (.inr (h id (.inl (by simp [HV.deep]))))
  simp only [az,e1,e2]
 case app fl sz bytes x y =>
  simp only [HOp.vals,bg,List.append_nil,List.mem_append] at h
  have e1:=xM (L:=L) (L':=L') (fl:=fl) (sz:=sz) (v:=y) fun x hx=>h x (.inr hx)
  cases x<;>(try (simp only [az,e1];done))<;>try rfl
  rename_i id q sz' off n
  have e2:Lk.upd L (dW L' fl sz y).2.2.1 id=Lk.upd L' (dW L' fl sz y).2.2.1 id:=tK (.inr (h id (.inl (by simp [HV.deep]))))
  simp only [az,e1,e2]
 case cpy x y =>
  simp only [HOp.vals,bg,List.append_nil,List.mem_append] at h
  have e1:=xM (L:=L) (L':=L') (fl:=true) (sz:=1) (v:=y) fun x hx=>h x (.inr hx)
  cases x<;>(try (simp only [az,e1];done))<;>try rfl
  rename_i id q sz' off n
  have e2:=h id (.inl (by simp [HV.deep]))
  simp only [az,e1,e2]
 case mnil ne x =>
  cases x<;>first|rfl|skip
  rename_i id q
  have:=h id (by simp [HOp.vals,bg,HV.deep])
  simp only [az,this]
 case mlook ok kk z x k =>
  cases x<;>first|rfl|skip
  rename_i id q
  have:=h id (by simp [HOp.vals,bg,HV.deep])
  simp only [az,this]
 case mset kk x k v =>
  cases x<;>first|rfl|skip
  rename_i id q
  simp only [HOp.vals,bg,List.append_nil,List.mem_append] at h
  have e1:=dJ (L:=L) (L':=L') (v:=v) fun x hx=>h x (.inr (.inr hx))
  have e2:Lk.upd L (takeC L' v).2.1 id=Lk.upd L' (takeC L' v).2.1 id:=tK (.inr (h id (.inl (by simp [HV.deep]))))
  simp only [az,e1,e2]
 case mlen x =>
  cases x<;>first|rfl|skip
  rename_i id q
  have:=h id (by simp [HOp.vals,bg,HV.deep])
  simp only [az,this]
 case tostr x =>
  cases x<;>first|rfl|skip
  rename_i id q sz off n
  have:=h id (by simp [HOp.vals,bg,HV.deep])
  simp only [az,this]
theorem Gf {op:HOp HV} (h:op.touch=false) (fr:Nat):az L fr op=az L' fr op:=by
 cases op<;>first|rfl|cases h
end
end Go.HL
end
section
namespace Go.HL
open Go.RowKit
mutual
def HV.rn (g:Nat->Nat):HV->HV
 | .ref i p sz o n=>.ref (g i) p sz o n
 | .pref i p o=>.pref (g i) p o
 | .mref i p=>.mref (g i) p
 | .agg cs=>.agg (Qo g cs)
 | .tup cs=>.tup (Qo g cs)
 | .fn f cs=>.fn f (Qo g cs)
 | v=>v
def Qo (g:Nat->Nat):List HV->List HV
 | []=>[]
 | v::r=>v.rn g::Qo g r
end
def BF (g:Nat->Nat):Upd->Upd
 | .put id t=>.put (g id) t
 | .kill id n=>.kill (g id) n
mutual
theorem HV.rn_id (g:Nat->Nat):∀v:HV,v.inn (fun i=>g i=i)->v.rn g=v
 | .ref i p sz o n,h=>by simp only [Bv] at h;simp only [HV.rn,h]
 | .pref i p o,h=>by simp only [uj] at h;simp only [HV.rn,h]
 | .mref i p,h=>by simp only [uq] at h;simp only [HV.rn,h]
 | .agg cs,h=>by simp only [nK] at h;simp only [HV.rn,Ad g cs h]
 | .tup cs,h=>by simp only [rM] at h;simp only [HV.rn,Ad g cs h]
 | .fn f cs,h=>by simp only [vH] at h;simp only [HV.rn,Ad g cs h]
 | .int ..,_=>rfl
 | .bool _,_=>rfl
 | .str _,_=>rfl
 | .nils,_=>rfl
 | .nilp,_=>rfl
 | .nilf,_=>rfl
 | .sl ..,_=>rfl
 | .osl ..,_=>rfl
 | .ptr ..,_=>rfl
 | .optr _,_=>rfl
 | .nilm,_=>rfl
 | .rmap ..,_=>rfl
 | .omap ..,_=>rfl
 | .oitr ..,_=>rfl
 | .dead,_=>rfl
theorem Ad (g:Nat->Nat):∀l:List HV,innL (fun i=>g i=i) l->Qo g l=l
 | [],_=>rfl
 | v::r,h=>by simp only [aV] at h;simp only [Qo,HV.rn_id g v h.1,Ad g r h.2]
end
def XY (fr fr':Nat) (g:Nat->Nat) (x y:HV×List Upd×Nat):Prop :=
 fr<=x.2.2/\y.2.2+fr=x.2.2+fr'/\((∀k,fr<=k->k<x.2.2->g k=k - fr+fr')->y.1=x.1.rn g/\y.2.1=x.2.1.map (BF g)) /\
  x.1.inn (fun i=>fr<=i/\i<x.2.2)/\∀u∈x.2.1,∃id t,u=.put id t/\fr<=id/\id<x.2.2/\t.deep=[]
def TK (fr fr':Nat) (g:Nat->Nat) (x y:List HV×List Upd×Nat):Prop :=
 fr<=x.2.2/\y.2.2+fr=x.2.2+fr'/\((∀k,fr<=k->k<x.2.2->g k=k - fr+fr')->y.1=Qo g x.1/\y.2.1=x.2.1.map (BF g)) /\
  innL (fun i=>fr<=i/\i<x.2.2) x.1/\∀u∈x.2.1,∃id t,u=.put id t/\fr<=id/\id<x.2.2/\t.deep=[]
theorem HV.inn_mono {p q:Nat->Prop} {v:HV} (h:v.inn p) (hpq:∀x,p x->q x):v.inn q:=fun x hx=>hpq x (h x hx)
theorem innL.mono {p q:Nat->Prop} {v:List HV} (h:innL p v) (hpq:∀x,p x->q x):innL q v:=fun x hx=>HV.inn_mono (h x hx) hpq
mutual
theorem oP (g:Nat->Nat):∀ (v:HV) (fr fr':Nat),v.deep=[]->XY fr fr' g (unpack fr v) (unpack fr' v)
 | .osl sz n cs,fr,fr',hd=>by
  refine ⟨by simp [unpack],by simp [unpack];omega,fun h=>?_,by simp [unpack],by intro u hu;simp only [unpack,List.mem_singleton] at hu;exact ⟨_,_,hu,Nat.le_refl _,Nat.lt_succ_self _,hd⟩⟩
  have:=h fr (Nat.le_refl _) (by simp [unpack])
  simp [unpack,HV.rn,BF,this]
 | .optr cs,fr,fr',hd=>by
  refine ⟨by simp [unpack],by simp [unpack];omega,fun h=>?_,by simp [unpack],by intro u hu;simp only [unpack,List.mem_singleton] at hu;exact ⟨_,_,hu,Nat.le_refl _,Nat.lt_succ_self _,hd⟩⟩
  have:=h fr (Nat.le_refl _) (by simp [unpack])
  simp [unpack,HV.rn,BF,this]
 | .omap m ks cs,fr,fr',hd=>by
  refine ⟨by simp [unpack],by simp [unpack];omega,fun h=>?_,by simp [unpack],by intro u hu;simp only [unpack,List.mem_singleton] at hu;exact ⟨_,_,hu,Nat.le_refl _,Nat.lt_succ_self _,hd⟩⟩
  have:=h fr (Nat.le_refl _) (by simp [unpack])
  simp [unpack,HV.rn,BF,this]
 | .oitr b s l c,fr,fr',hd=>by
  refine ⟨by simp [unpack],by simp [unpack];omega,fun h=>?_,by simp [unpack],by intro u hu;simp only [unpack,List.mem_singleton] at hu;exact ⟨_,_,hu,Nat.le_refl _,Nat.lt_succ_self _,hd⟩⟩
  have:=h fr (Nat.le_refl _) (by simp [unpack])
  simp [unpack,HV.rn,BF,this]
 | .agg cs,fr,fr',hd=>by
  obtain ⟨h1,h2,h3,h4,h5⟩:=oV g cs fr fr' hd
  exact ⟨h1,h2,fun h=>by have:=h3 h;simp only [unpack,HV.rn];exact ⟨by rw [this.1],this.2⟩,by simpa [unpack] using h4,h5⟩
 | .tup cs,fr,fr',hd=>by
  obtain ⟨h1,h2,h3,h4,h5⟩:=oV g cs fr fr' hd
  exact ⟨h1,h2,fun h=>by have:=h3 h;simp only [unpack,HV.rn];exact ⟨by rw [this.1],this.2⟩,by simpa [unpack] using h4,h5⟩
 | .fn f cs,fr,fr',hd=>by
  obtain ⟨h1,h2,h3,h4,h5⟩:=oV g cs fr fr' hd
  exact ⟨h1,h2,fun h=>by have:=h3 h;simp only [unpack,HV.rn];exact ⟨by rw [this.1],this.2⟩,by simpa [unpack] using h4,h5⟩
 | .ref i p sz o n,fr,fr',hd=>by cases hd
 | .pref i p o,fr,fr',hd=>by cases hd
 | .mref i p,fr,fr',hd=>by cases hd
 | .nilm,fr,fr',hd=>⟨Nat.le_refl _,Nat.add_comm _ _,fun _=>⟨rfl,rfl⟩,by simp [unpack],by simp [unpack]⟩
 | .int ..,fr,fr',hd=>⟨Nat.le_refl _,Nat.add_comm _ _,fun _=>⟨rfl,rfl⟩,by simp [unpack],by simp [unpack]⟩
 | .bool _,fr,fr',hd=>⟨Nat.le_refl _,Nat.add_comm _ _,fun _=>⟨rfl,rfl⟩,by simp [unpack],by simp [unpack]⟩
 | .str _,fr,fr',hd=>⟨Nat.le_refl _,Nat.add_comm _ _,fun _=>⟨rfl,rfl⟩,by simp [unpack],by simp [unpack]⟩
 | .nils,fr,fr',hd=>⟨Nat.le_refl _,Nat.add_comm _ _,fun _=>⟨rfl,rfl⟩,by simp [unpack],by simp [unpack]⟩
 | .nilp,fr,fr',hd=>⟨Nat.le_refl _,Nat.add_comm _ _,fun _=>⟨rfl,rfl⟩,by simp [unpack],by simp [unpack]⟩
 | .nilf,fr,fr',hd=>⟨Nat.le_refl _,Nat.add_comm _ _,fun _=>⟨rfl,rfl⟩,by simp [unpack],by simp [unpack]⟩
 | .dead,fr,fr',hd=>⟨Nat.le_refl _,Nat.add_comm _ _,fun _=>⟨rfl,rfl⟩,by simp [unpack],by simp [unpack]⟩
 | .sl n cs,fr,fr',hd=>⟨Nat.le_refl _,Nat.add_comm _ _,fun _=>⟨rfl,rfl⟩,(by intro x hx;simp only [unpack] at hx;rw [hd] at hx;cases hx),(by simp [unpack])⟩
 | .ptr cs o,fr,fr',hd=>⟨Nat.le_refl _,Nat.add_comm _ _,fun _=>⟨rfl,rfl⟩,(by intro x hx;simp only [unpack] at hx;rw [hd] at hx;cases hx),(by simp [unpack])⟩
 | .rmap m ks cs,fr,fr',hd=>⟨Nat.le_refl _,Nat.add_comm _ _,fun _=>⟨rfl,rfl⟩,(by intro x hx;simp only [unpack] at hx;rw [hd] at hx;cases hx),(by simp [unpack])⟩
theorem oV (g:Nat->Nat):∀ (l:List HV) (fr fr':Nat),bg l=[]->TK fr fr' g (bf fr l) (bf fr' l)
 | [],fr,fr',hd=>⟨Nat.le_refl _,Nat.add_comm _ _,fun _=>⟨rfl,rfl⟩,by simp [bf],by simp [bf]⟩
 | v::r,fr,fr',hd=>by
  simp only [bg,List.append_eq_nil_iff] at hd
  obtain ⟨a1,a2,a3,a4,a5⟩:=oP g v fr fr' hd.1
  obtain ⟨b1,b2,b3,b4,b5⟩:=oV g r (unpack fr v).2.2 (unpack fr' v).2.2 hd.2
  refine ⟨by simp only [bf];omega,by simp only [bf];omega,fun h=>?_,?_,?_⟩
  ·simp only [bf] at h ⊢
   obtain ⟨c1,c2⟩:=a3 fun k h1 h2=>h k h1 (by omega)
   obtain ⟨c3,c4⟩:=b3 fun k h1 h2=>by rw [h k (by omega) h2];omega
   simp only [Qo,c1,c2,c3,c4,List.map_append,and_self]
  ·simp only [bf,aV]
   exact ⟨HV.inn_mono a4 fun x hx=>by omega,b4.mono fun x hx=>by omega⟩
  ·intro u hu
   simp only [bf,List.mem_append] at hu ⊢
   rcases hu with hu|hu
   ·obtain ⟨id,t,e,h1,h2,h3⟩:=a5 u hu
    exact ⟨id,t,e,h1,by omega,h3⟩
   ·obtain ⟨id,t,e,h1,h2,h3⟩:=b5 u hu
    exact ⟨id,t,e,by omega,h2,h3⟩
end
end Go.HL
end
section
namespace Go.HL
open Go.RowKit
structure CF where
 ht:qM
 hm:qM
structure DS where
 rel:FuncId->List HV->HV->Prop
 own:FuncId->Bool
def DS.of (D:FuncId->List HV->HV->Prop):DS:=⟨D,fun _=>false⟩
def jg (C:CF) (D:DS) (M:Lk) (fr:Nat):HOp HV->Prop
 | .call f xs=>if D.own f=true then (aP M xs).2.2/\C.hm f (aP M xs).1 (D.rel f (aP M xs).1)/\∀r,D.rel f (aP M xs).1 r->r.deep=[]->(unpack fr r).2.2<=fr+stride
  else C.ht f (cZ bV M xs) (D.rel f (cZ bV M xs))/\∀r,D.rel f (cZ bV M xs) r->r.deep=[]->(aX xs || r.noRd)=true/\(unpack fr r).2.2<=fr+stride
 | .callv (.fn f cap) xs=>C.ht f (cZ bV M (xs++cap)) (D.rel f (cZ bV M (xs++cap)))/\∀r,D.rel f (cZ bV M (xs++cap)) r->r.deep=[]->(aX (xs++cap) || r.noRd)=true/\(unpack fr r).2.2<=fr+stride
 | op=>(az M fr op).2.2
def ku (D:DS) (M:Lk) (fr:Nat) (e:HV×List Upd):HOp HV->Prop
 | .call f xs=>if D.own f=true then ∃r,D.rel f (aP M xs).1 r/\r.deep=[]/\e=((unpack fr r).1,(aP M xs).2.1++(unpack fr r).2.1)
  else ∃r,D.rel f (cZ bV M xs) r/\r.deep=[]/\e=((unpack fr r).1,(unpack fr r).2.1)
 | .callv (.fn f cap) xs=>∃r,D.rel f (cZ bV M (xs++cap)) r/\r.deep=[]/\e=((unpack fr r).1,(unpack fr r).2.1)
 | op=>e=((az M fr op).1,(az M fr op).2.1)
def gd (all:List aB) (o:aB) (S:Lk):Option Bool :=
 match o.guard with
 | none=>some true
 | some (j,want)=>match ((all[j]?).bind (·.dst)).map S with
  | some (.bool b)=>some (b==want)
  | some (.tup [])=>some false
  | _=>none
def fO (C:CF) (D:DS) (all:List aB) (fr:Nat) (o:aB) (S M:Lk):Prop :=
 match gd all o S with
 | some true=>jg C D M fr (o.op.map (dA S))
 | some false=>True
 | none=>False
def iy (D:DS) (all:List aB) (fr:Nat) (o:aB) (S M:Lk) (e:HV×List Upd):Prop :=
 match gd all o S with
 | some true=>ku D M fr e (o.op.map (dA S))
 | some false=>e=(.tup [],[])
 | none=>False
def jZ (o:aB) (e:HV×List Upd) (S:Lk):Lk:=fun t=>if o.dst=some t then e.1 else qB S e.2 t
def pV (e:HV×List Upd) (M:Lk):Lk:=Lk.upd M e.2
def iP (o:aB) (S:Lk):List Nat:=bg (o.op.map (dA S)).vals
def slotsOf:List HX->List Nat
 | []=>[]
 | .t i::r=>i::slotsOf r
 | .c _::r=>slotsOf r
def looks (all:List aB) (o:aB):List Nat :=
 slotsOf o.op.vals++(match o.guard with|none=>[]|some (j,_)=>((all[j]?).bind (·.dst)).toList)
theorem Ht {α β:Type} {g g':α->β} {o:HOp α} (h:∀x∈o.vals,g x=g' x):o.map g=o.map g':=by
 cases o<;>simp_all [HOp.vals,HOp.map]
 case bld zs ps =>
  intro a b c hx
  exact h c a b hx
 case slc sz x lo hi =>
  refine ⟨?_,?_⟩
  ·cases lo<;>simp_all
  ·cases hi<;>simp_all
theorem Jp {S S':Lk} {l:List HX} (h:∀t∈slotsOf l,S t=S' t):∀x∈l,dA S x=dA S' x:=by
 induction l with
 | nil=>simp
 | cons y r ih =>
  intro x hx
  cases y with
  | t i =>
   simp only [slotsOf,List.mem_cons] at h
   rcases List.mem_cons.1 hx with rfl|hx
   ·exact h i (.inl rfl)
   ·exact ih (fun t ht=>h t (.inr ht)) x hx
  | c v =>
   rcases List.mem_cons.1 hx with rfl|hx
   ·rfl
   ·exact ih h x hx
theorem jr {all:List aB} {o:aB} {S S':Lk} (h:∀t∈looks all o,S t=S' t):o.op.map (dA S)=o.op.map (dA S') :=
 Ht (Jp fun t ht=>h t (by simp [looks,ht]))
theorem um {all:List aB} {o:aB} {S S':Lk} (h:∀t∈looks all o,S t=S' t):gd all o S=gd all o S':=by
 unfold gd
 cases hg:o.guard with
 | none=>rfl
 | some jw =>
  obtain ⟨j,want⟩:=jw
  simp only
  cases hd:(all[j]?).bind (·.dst) with
  | none=>rfl
  | some d =>
   simp only [Option.map_some]
   rw [h d (by simp [looks,hg,hd])]
mutual
theorem FC {T:Nat->Bool} {L L':Lk}:∀v:HV,(∀x∈v.deep,L x=L' x)->v.thaw T L=v.thaw T L'
 | .ref i p sz o n,h=>by have:=h i (by simp [HV.deep]);simp only [HV.thaw,this]
 | .pref i p o,h=>by have:=h i (by simp [HV.deep]);simp only [HV.thaw,this]
 | .mref i p,h=>by have:=h i (by simp [HV.deep]);simp only [HV.thaw,this]
 | .agg cs,h=>by simp only [HV.thaw,iQ cs h]
 | .tup cs,h=>by simp only [HV.thaw,iQ cs h]
 | .fn f cs,h=>by simp only [HV.thaw,iQ cs h]
 | .int ..,_=>rfl
 | .bool _,_=>rfl
 | .str _,_=>rfl
 | .nils,_=>rfl
 | .nilp,_=>rfl
 | .nilf,_=>rfl
 | .sl ..,_=>rfl
 | .osl ..,_=>rfl
 | .ptr ..,_=>rfl
 | .optr _,_=>rfl
 | .nilm,_=>rfl
 | .rmap ..,_=>rfl
 | .omap ..,_=>rfl
 | .oitr ..,_=>rfl
 | .dead,_=>rfl
theorem iQ {T:Nat->Bool} {L L':Lk}:∀l:List HV,(∀x∈bg l,L x=L' x)->cZ T L l=cZ T L' l
 | [],_=>rfl
 | v::r,h=>by
  simp only [bg,List.mem_append] at h
  simp only [cZ,FC v fun x hx=>h x (.inl hx),iQ r fun x hx=>h x (.inr hx)]
end
theorem jo (a b:List HV):bg (a++b)=bg a++bg b:=by
 induction a with
 | nil=>rfl
 | cons v a ih=>simp [bg,ih]
mutual
theorem Kr {p:Nat->Prop} {D:List Nat}:∀ (L:Lk) (v:HV),v.inn p->(∀x∈v.deep,x∈D)->(∀id,(L id).inn p)->(takeD L v).1.inn p/\(∀u∈(takeD L v).2.1,JB D p u)
 | L,.agg cs,h,hD,hL=>by
  simp only [nK] at h
  obtain ⟨a,b⟩:=mg L cs h hD hL
  exact ⟨by simpa [takeD] using a,b⟩
 | L,.tup cs,h,hD,hL=>by
  simp only [rM] at h
  obtain ⟨a,b⟩:=mg L cs h hD hL
  exact ⟨by simpa [takeD] using a,b⟩
 | L,.fn f cs,h,hD,hL=>by
  simp only [vH] at h
  obtain ⟨a,b⟩:=mg L cs h hD hL
  exact ⟨by simpa [takeD] using a,b⟩
 | L,.dead,_,_,_=>by simp [takeD]
 | L,.int ..,h,hD,hL=>by unfold takeD;exact ⟨(cu h hD hL).1,(cu h hD hL).2.1⟩
 | L,.bool _,h,hD,hL=>by unfold takeD;exact ⟨(cu h hD hL).1,(cu h hD hL).2.1⟩
 | L,.str _,h,hD,hL=>by unfold takeD;exact ⟨(cu h hD hL).1,(cu h hD hL).2.1⟩
 | L,.nils,h,hD,hL=>by unfold takeD;exact ⟨(cu h hD hL).1,(cu h hD hL).2.1⟩
 | L,.nilp,h,hD,hL=>by unfold takeD;exact ⟨(cu h hD hL).1,(cu h hD hL).2.1⟩
 | L,.nilf,h,hD,hL=>by unfold takeD;exact ⟨(cu h hD hL).1,(cu h hD hL).2.1⟩
 | L,.sl ..,h,hD,hL=>by unfold takeD;exact ⟨(cu h hD hL).1,(cu h hD hL).2.1⟩
 | L,.osl ..,h,hD,hL=>by unfold takeD;exact ⟨(cu h hD hL).1,(cu h hD hL).2.1⟩
 | L,.ptr ..,h,hD,hL=>by unfold takeD;exact ⟨(cu h hD hL).1,(cu h hD hL).2.1⟩
 | L,.optr _,h,hD,hL=>by unfold takeD;exact ⟨(cu h hD hL).1,(cu h hD hL).2.1⟩
 | L,.nilm,h,hD,hL=>by unfold takeD;exact ⟨(cu h hD hL).1,(cu h hD hL).2.1⟩
 | L,.rmap ..,h,hD,hL=>by unfold takeD;exact ⟨(cu h hD hL).1,(cu h hD hL).2.1⟩
 | L,.omap ..,h,hD,hL=>by unfold takeD;exact ⟨(cu h hD hL).1,(cu h hD hL).2.1⟩
 | L,.oitr ..,h,hD,hL=>by unfold takeD;exact ⟨(cu h hD hL).1,(cu h hD hL).2.1⟩
 | L,.mref ..,h,hD,hL=>by unfold takeD;exact ⟨(cu h hD hL).1,(cu h hD hL).2.1⟩
 | L,.ref ..,h,hD,hL=>by unfold takeD;exact ⟨(cu h hD hL).1,(cu h hD hL).2.1⟩
 | L,.pref ..,h,hD,hL=>by unfold takeD;exact ⟨(cu h hD hL).1,(cu h hD hL).2.1⟩
theorem mg {p:Nat->Prop} {D:List Nat}:∀ (L:Lk) (l:List HV),innL p l->(∀x∈bg l,x∈D)->(∀id,(L id).inn p)->innL p (aP L l).1/\(∀u∈(aP L l).2.1,JB D p u)
 | L,[],_,_,_=>by simp [aP]
 | L,v::r,h,hD,hL=>by
  simp only [aV] at h
  simp only [bg,List.mem_append] at hD
  obtain ⟨a1,a2⟩:=Kr (D:=D) L v h.1 (fun x hx=>hD x (.inl hx)) hL
  obtain ⟨b1,b2⟩:=mg (D:=D) (Lk.upd L (takeD L v).2.1) r h.2 (fun x hx=>hD x (.inr hx)) (uJ hL a2)
  simp only [aP,aV,List.mem_append]
  exact ⟨⟨a1,b1⟩,fun u hu=>hu.elim (a2 u) (b2 u)⟩
end
mutual
theorem CU:∀ (v:HV) {L L':Lk},(∀x∈v.deep,L x=L' x)->takeD L v=takeD L' v
 | .agg cs,L,L',h=>by unfold takeD;rw [jq cs h]
 | .tup cs,L,L',h=>by unfold takeD;rw [jq cs h]
 | .fn f cs,L,L',h=>by unfold takeD;rw [jq cs h]
 | .dead,_,_,_=>by simp [takeD]
 | .int ..,L,L',h=>by unfold takeD;exact dJ h
 | .bool _,L,L',h=>by unfold takeD;exact dJ h
 | .str _,L,L',h=>by unfold takeD;exact dJ h
 | .nils,L,L',h=>by unfold takeD;exact dJ h
 | .nilp,L,L',h=>by unfold takeD;exact dJ h
 | .nilf,L,L',h=>by unfold takeD;exact dJ h
 | .sl ..,L,L',h=>by unfold takeD;exact dJ h
 | .osl ..,L,L',h=>by unfold takeD;exact dJ h
 | .ptr ..,L,L',h=>by unfold takeD;exact dJ h
 | .optr _,L,L',h=>by unfold takeD;exact dJ h
 | .nilm,L,L',h=>by unfold takeD;exact dJ h
 | .rmap ..,L,L',h=>by unfold takeD;exact dJ h
 | .omap ..,L,L',h=>by unfold takeD;exact dJ h
 | .oitr ..,L,L',h=>by unfold takeD;exact dJ h
 | .mref ..,L,L',h=>by unfold takeD;exact dJ h
 | .ref ..,L,L',h=>by unfold takeD;exact dJ h
 | .pref ..,L,L',h=>by unfold takeD;exact dJ h
theorem jq:∀ (l:List HV) {L L':Lk},(∀x∈bg l,L x=L' x)->aP L l=aP L' l
 | [],_,_,_=>rfl
 | v::r,L,L',h=>by
  simp only [bg,List.mem_append] at h
  have e1:=CU v (L:=L) (L':=L') fun x hx=>h x (.inl hx)
  simp only [aP,e1]
  rw [jq r (L:=Lk.upd L (takeD L' v).2.1) (L':=Lk.upd L' (takeD L' v).2.1) fun x hx=>tK (.inr (h x (.inr hx)))]
end
section
variable {C:CF} {D:DS} {all:List aB} {M M' S S':Lk} {fr nx i:Nat}
theorem Dp {op:HOp HV} (h:op.touch=false\/∀x∈bg op.vals,M x=M' x):jg C D M fr op=jg C D M' fr op:=by
 rcases h with h|h
 ·cases op<;>first|cases h;done|exact congrArg (·.2.2) (Gf (L:=M) (L':=M') h fr)
 ·cases op
  case call f xs=>simp only [jg,iQ (L:=M) (L':=M') xs h,jq xs h]
  case callv x xs =>
   simp only [HOp.vals,bg,List.mem_append] at h
   cases x
   case fn f cap =>
    have:=iQ (T:=bV) (L:=M) (L':=M') (xs++cap) fun x hx=>h x (by rw [jo,List.mem_append] at hx;exact hx.symm)
    simp only [jg,this]
   all_goals rfl
  all_goals exact congrArg (·.2.2) (yJ (L:=M) (L':=M') h fr)
theorem FM {op:HOp HV} {e:HV×List Upd} (h:op.touch=false\/∀x∈bg op.vals,M x=M' x):ku D M fr e op=ku D M' fr e op:=by
 rcases h with h|h
 ·cases op<;>first|cases h;done|exact congrArg (fun q:HV×List Upd×Prop=>e=(q.1,q.2.1)) (Gf (L:=M) (L':=M') h fr)
 ·cases op
  case call f xs=>simp only [ku,iQ (L:=M) (L':=M') xs h,jq xs h]
  case callv x xs =>
   simp only [HOp.vals,bg,List.mem_append] at h
   cases x
   case fn f cap =>
    have:=iQ (T:=bV) (L:=M) (L':=M') (xs++cap) fun x hx=>h x (by rw [jo,List.mem_append] at hx;exact hx.symm)
    simp only [ku,this]
   all_goals rfl
  all_goals exact congrArg (fun q:HV×List Upd×Prop=>e=(q.1,q.2.1)) (yJ (L:=M) (L':=M') h fr)
theorem nS {o:aB} (hS:∀t∈looks all o,S t=S' t) (hM:o.op.touch=false\/∀x∈iP o S,M x=M' x):fO C D all fr o S M=fO C D all fr o S' M':=by
 unfold fO
 rw [um hS,jr hS]
 rw [iP,jr hS] at hM
 rw [Dp (M:=M) (M':=M') (by rw [HOp.touch_map];exact hM)]
theorem oW {o:aB} {e:HV×List Upd} (hS:∀t∈looks all o,S t=S' t) (hM:o.op.touch=false\/∀x∈iP o S,M x=M' x):iy D all fr o S M e=iy D all fr o S' M' e:=by
 unfold iy
 rw [um hS,jr hS]
 rw [iP,jr hS] at hM
 rw [FM (M:=M) (M':=M') (by rw [HOp.touch_map];exact hM)]
def uA (nx i x:Nat):Prop:=nx+stride*i<=x/\x<nx+stride*(i+1)
def pz (nx:Nat) (X:Nat->Prop) (x:Nat):Prop:=x<nx\/∃k,X k/\uA nx k x
structure Inv (nx:Nat) (X:Nat->Prop) (S M:Lk):Prop where
 slots:∀t,(S t).inn (pz nx X)
 trees:∀id,(M id).inn (pz nx X)
 alive:∀id,M id≠.dead->pz nx X id
theorem F8 {i j x:Nat} (h1:uA nx i x) (h2:uA nx j x):i=j:=by
 unfold uA stride at *;omega
theorem nJ {X:Nat->Prop} {x:Nat} (h:pz nx X x) (hr:uA nx i x):X i:=by
 rcases h with h|⟨k,hk,h⟩
 ·unfold uA stride at hr;omega
 ·rw [F8 hr h];exact hk
theorem kC {X Y:Nat->Prop} (h:∀k,X k->Y k) {x:Nat} (hx:pz nx X x):pz nx Y x:=hx.imp id fun ⟨k,hk,hr⟩=>⟨k,h k hk,hr⟩
def lL (o:aB):Bool:=(bg o.op.lits).isEmpty&&o.op.vals.all fun|.c v=>v.deep.isEmpty|_=>true
theorem tY {X:Nat->Prop} (hI:Inv nx X S M) {o:aB} (hl:lL o=true):innL (pz nx X) (o.op.map (dA S)).vals:=by
 rw [HOp.vals_map]
 intro v hv
 obtain ⟨x,hx,rfl⟩:=List.mem_map.1 hv
 cases x with
 | t i=>exact hI.slots i
 | c v =>
  simp only [lL,Bool.and_eq_true,List.all_eq_true] at hl
  have:=hl.2 _ hx
  simp only [List.isEmpty_iff] at this
  intro y hy
  simp only [dA,this] at hy
  cases hy
theorem Ku {X:Nat->Prop} {o:aB} (hl:lL o=true):innL (pz nx X) (o.op.map (dA S)).lits:=by
 rw [HOp.lits_map,innL_iff]
 simp only [lL,Bool.and_eq_true,List.isEmpty_iff] at hl
 rw [hl.1]
 simp
theorem Qd {X:Nat->Prop} {op:HOp HV} {e:HV×List Upd} (hv:innL (pz nx X) op.vals) (hl:innL (pz nx X) op.lits) (hT:∀id,(M id).inn (pz nx X)) (hs:jg C D M (nx+stride*i) op) (h:ku D M (nx+stride*i) e op) :
  e.1.inn (pz nx fun k=>X k\/k=i)/\(∀u∈e.2,Pi (pz nx fun k=>X k\/k=i) u)/\(∀x∈ig e.2,uA nx i x\/(op.wrtO D.own=true/\x∈bg op.vals))/\(op.killer=false->∀u∈e.2,∃id t,u=.put id t):=by
 have up:∀x,pz nx X x->pz nx (fun k=>X k\/k=i) x:=fun x hx=>kC (fun k hk=>.inl hk) hx
 have r0:uA nx i (nx+stride*i):=by unfold uA stride;omega
 have call:∀ (f:FuncId) (xs:List HV) (args:List HV),(C.ht f args (D.rel f args)/\∀r,D.rel f args r->r.deep=[]->(aX xs || r.noRd)=true/\(unpack (nx+stride*i) r).2.2<=nx+stride*i+stride)->(∃r,D.rel f args r/\r.deep=[]/\e=((unpack (nx+stride*i) r).1,(unpack (nx+stride*i) r).2.1)) ->
   e.1.inn (pz nx fun k=>X k\/k=i)/\(∀u∈e.2,Pi (pz nx fun k=>X k\/k=i) u)/\(∀x∈ig e.2,uA nx i x)/\∀u∈e.2,∃id t,u=.put id t:=by
  rintro f xs args ⟨_,hb⟩ ⟨r,hr,hd,rfl⟩
  obtain ⟨_,_,_,h4,h5⟩:=oP id r (nx+stride*i) (nx+stride*i) hd
  have h6:=(hb r hr hd).2
  have R:∀x,nx+stride*i<=x->x<(unpack (nx+stride*i) r).2.2->uA nx i x:=fun x h1 h2=>⟨h1,by unfold stride at *;omega⟩
  refine ⟨HV.inn_mono h4 fun x hx=>.inr ⟨i,.inr rfl,R x hx.1 hx.2⟩,?_,?_,?_⟩
  ·intro u hu
   obtain ⟨id,t,rfl,h1,h2,h3⟩:=h5 u hu
   exact ⟨.inr ⟨i,.inr rfl,R id h1 h2⟩,fun x hx=>by rw [h3] at hx;cases hx⟩
  ·intro x hx
   generalize (unpack (nx+stride*i) r).2.1=us at h5 hx
   induction us with
   | nil=>cases hx
   | cons u us ih =>
    obtain ⟨id,t,rfl,h1,h2,h3⟩:=h5 u (by simp)
    simp only [ig,List.mem_cons] at hx
    rcases hx with rfl|hx
    ·exact R _ h1 h2
    ·exact ih (fun u hu=>h5 u (by simp [hu])) hx
  ·intro u hu
   obtain ⟨id,t,rfl,_⟩:=h5 u hu
   exact ⟨id,t,rfl⟩
 have plain:e=((az M (nx+stride*i) op).1,(az M (nx+stride*i) op).2.1)->e.1.inn (pz nx fun k=>X k\/k=i)/\(∀u∈e.2,Pi (pz nx fun k=>X k\/k=i) u)/\(∀x∈ig e.2,uA nx i x\/(op.wrtO D.own=true/\x∈bg op.vals))/\(op.killer=false->∀u∈e.2,∃id t,u=.put id t):=by
  intro he
  obtain ⟨us0,a1,a2,a3,a4⟩:=xC (L:=M) (op:=op) (D:=bg op.vals) hv (fun x hx=>hx) hl hT
  have hv':=innL_iff.1 hv
  have b1:∀u∈us0,Pi (pz nx fun k=>X k\/k=i) u:=fun u hu=>by
   have:=a1 u hu
   cases u with
   | put id t=>exact ⟨up _ (hv' id this.1),HV.inn_mono this.2 up⟩
   | kill=>trivial
  have b2:∀x∈ig us0,uA nx i x\/(op.wrtO D.own=true/\x∈bg op.vals):=by
   intro x hx
   right
   refine ⟨?_,?_⟩
   ·cases hw:op.wrt with
    | true=>exact HOp.wrtO_of D.own hw
    | false=>rw [a2 hw] at hx;cases hx
   ·clear a2 a3 a4 b1
    induction us0 with
    | nil=>cases hx
    | cons u us ih =>
     have ih:=ih (fun u hu=>a1 u (by simp [hu]))
     cases u with
     | put id t =>
      simp only [ig,List.mem_cons] at hx
      rcases hx with rfl|hx
      ·exact (a1 (.put x t) (by simp)).1
      ·exact ih hx
     | kill=>exact ih hx
  rcases a4 with ⟨v,q,h1,h2⟩|⟨mk,T,q,h0,h1,h2⟩
  ·rw [h2] at he
   subst he
   exact ⟨HV.inn_mono h1 up,b1,b2,a3⟩
  ·rw [h2] at he
   subst he
   refine ⟨?_,?_,?_,?_⟩
   ·rcases h0 with ⟨sz,n,rfl⟩|rfl|rfl
    ·simp only [Bv];exact .inr ⟨i,.inr rfl,r0⟩
    ·simp only [uj];exact .inr ⟨i,.inr rfl,r0⟩
    ·simp only [uq];exact .inr ⟨i,.inr rfl,r0⟩
   ·intro u hu
    simp only [List.mem_append,List.mem_singleton] at hu
    rcases hu with hu|rfl
    ·exact b1 u hu
    ·exact ⟨.inr ⟨i,.inr rfl,r0⟩,HV.inn_mono h1 up⟩
   ·intro x hx
    simp only [vV,ig,List.mem_append,List.mem_singleton] at hx
    rcases hx with hx|rfl
    ·exact b2 x hx
    ·exact .inl r0
   ·intro hk u hu
    simp only [List.mem_append,List.mem_singleton] at hu
    rcases hu with hu|rfl
    ·exact a3 hk u hu
    ·exact ⟨_,_,rfl⟩
 have w:(e.1.inn (pz nx fun k=>X k\/k=i)/\(∀u∈e.2,Pi (pz nx fun k=>X k\/k=i) u)/\(∀x∈ig e.2,uA nx i x)/\∀u∈e.2,∃id t,u=.put id t)->e.1.inn (pz nx fun k=>X k\/k=i)/\(∀u∈e.2,Pi (pz nx fun k=>X k\/k=i) u)/\(∀x∈ig e.2,uA nx i x\/(op.wrtO D.own=true/\x∈bg op.vals))/\(op.killer=false->∀u∈e.2,∃id t,u=.put id t) :=
  fun ⟨a,b,c,d⟩=>⟨a,b,fun x hx=>.inl (c x hx),fun _=>d⟩
 cases op
 case call f xs =>
  simp only [jg] at hs
  simp only [ku] at h
  by_cases ho:D.own f=true
  ·rw [if_pos ho] at hs h
   obtain ⟨r,hr,hd,rfl⟩:=h
   have hv:innL (pz nx X) xs:=hv
   obtain ⟨_,a2⟩:=mg (D:=bg xs) M xs hv (fun x hx=>hx) hT
   have a3:=jV M xs
   obtain ⟨_,_,_,h4,h5⟩:=oP id r (nx+stride*i) (nx+stride*i) hd
   have h6:=hs.2.2 r hr hd
   have R:∀x,nx+stride*i<=x->x<(unpack (nx+stride*i) r).2.2->uA nx i x:=fun x h1 h2=>⟨h1,by unfold stride at *;omega⟩
   refine ⟨HV.inn_mono h4 fun x hx=>.inr ⟨i,.inr rfl,R x hx.1 hx.2⟩,fun u hu=>?_,fun x hx=>?_,fun _ u hu=>?_⟩
   ·rcases List.mem_append.1 hu with hu|hu
    ·have:=a2 u hu
     cases u with
     | put id t=>exact ⟨up _ (innL_iff.1 hv id this.1),HV.inn_mono this.2 up⟩
     | kill=>trivial
    ·obtain ⟨id,t,rfl,h1,h2,h3⟩:=h5 u hu
     exact ⟨.inr ⟨i,.inr rfl,R id h1 h2⟩,fun x hx=>by rw [h3] at hx;cases hx⟩
   ·simp only [vV,List.mem_append] at hx
    rcases hx with hx|hx
    ·refine .inr ⟨ho,?_⟩
     show x∈bg xs
     generalize (aP M xs).2.1=us at a2 hx
     induction us with
     | nil=>cases hx
     | cons u us ih =>
      have ih:=ih (fun u hu=>a2 u (by simp [hu]))
      cases u with
      | put id t =>
       simp only [ig,List.mem_cons] at hx
       rcases hx with rfl|hx
       ·exact (a2 (.put x t) (by simp)).1
       ·exact ih hx
      | kill=>exact ih hx
    ·left
     generalize (unpack (nx+stride*i) r).2.1=us at h5 hx
     induction us with
     | nil=>cases hx
     | cons u us ih =>
      obtain ⟨id,t,rfl,h1,h2,h3⟩:=h5 u (by simp)
      simp only [ig,List.mem_cons] at hx
      rcases hx with rfl|hx
      ·exact R _ h1 h2
      ·exact ih (fun u hu=>h5 u (by simp [hu])) hx
   ·rcases List.mem_append.1 hu with hu|hu
    ·exact a3 u hu
    ·obtain ⟨id,t,rfl,_⟩:=h5 u hu
     exact ⟨id,t,rfl⟩
  ·rw [if_neg ho] at hs h
   exact w (call f xs _ hs h)
 case callv x xs =>
  cases x
  case fn f cap=>exact w (call f (xs++cap) _ hs h)
  all_goals exact plain h
 all_goals exact plain h
mutual
theorem uz {p:Nat->Prop} (id len:Nat):∀v:HV,v.inn p->(v.kill id len).inn p
 | .ref i q sz o n,h=>by simp only [HV.kill];split;exact di;exact h
 | .pref i q o,h=>by simp only [HV.kill];split;exact di;exact h
 | .mref i q,h=>by simp only [HV.kill];split;exact di;exact h
 | .agg cs,h=>by simp only [HV.kill,nK] at h ⊢;exact rE id len cs h
 | .tup cs,h=>by simp only [HV.kill,rM] at h ⊢;exact rE id len cs h
 | .fn f cs,h=>by simp only [HV.kill,vH] at h ⊢;exact rE id len cs h
 | .int ..,h=>h
 | .bool _,h=>h
 | .str _,h=>h
 | .nils,h=>h
 | .nilp,h=>h
 | .nilf,h=>h
 | .sl ..,h=>h
 | .osl ..,h=>h
 | .ptr ..,h=>h
 | .optr _,h=>h
 | .nilm,h=>h
 | .rmap ..,h=>h
 | .omap ..,h=>h
 | .oitr ..,h=>h
 | .dead,h=>h
theorem rE {p:Nat->Prop} (id len:Nat):∀l:List HV,innL p l->innL p (lM id len l)
 | [],h=>h
 | v::r,h=>by simp only [lM,aV] at h ⊢;exact ⟨uz id len v h.1,rE id len r h.2⟩
end
theorem FZ {p:Nat->Prop} {us:List Upd} {S:Lk} (h:∀t,(S t).inn p) (t:Nat):(qB S us t).inn p:=by
 induction us generalizing S with
 | nil=>exact h t
 | cons u us ih =>
  cases u with
  | put=>exact ih h
  | kill id len=>exact ih fun t=>uz id len _ (h t)
theorem nH {X:Nat->Prop} (hI:Inv nx X S M) {o:aB} (hl:lL o=true) {e:HV×List Upd} (hs:fO C D all (nx+stride*i) o S M) (h:iy D all (nx+stride*i) o S M e) :
  e.1.inn (pz nx fun k=>X k\/k=i)/\(∀u∈e.2,Pi (pz nx fun k=>X k\/k=i) u)/\(∀x∈ig e.2,uA nx i x\/(o.op.wrtO D.own=true/\x∈iP o S))/\(o.op.killer=false->∀u∈e.2,∃id t,u=.put id t):=by
 unfold fO at hs
 unfold iy at h
 split at hs
 ·rename_i hg
  rw [hg] at h
  have:=Qd (tY hI hl) (Ku hl) hI.trees hs h
  rw [HOp.wrtO_map,HOp.killer_map] at this
  exact this
 ·rename_i hg
  rw [hg] at h
  subst h
  simp [ig]
 ·exact hs.elim
theorem Inv.step {X:Nat->Prop} (hI:Inv nx X S M) {o:aB} {e:HV×List Upd} (h1:e.1.inn (pz nx fun k=>X k\/k=i)) (h2:∀u∈e.2,Pi (pz nx fun k=>X k\/k=i) u):Inv nx (fun k=>X k\/k=i) (jZ o e S) (pV e M):=by
 have up:∀x,pz nx X x->pz nx (fun k=>X k\/k=i) x:=fun x hx=>kC (fun k hk=>.inl hk) hx
 refine ⟨fun t=>?_,fun id=>?_,fun id hid=>?_⟩
 ·unfold jZ
  split
  ·exact h1
  ·exact FZ (fun t=>HV.inn_mono (hI.slots t) up) t
 ·exact Pm (fun id=>HV.inn_mono (hI.trees id) up) h2 id
 ·by_cases ht:id∈ig e.2
  ·generalize e.2=us at h2 ht
   induction us with
   | nil=>cases ht
   | cons u us ih =>
    cases u with
    | put j t =>
     simp only [ig,List.mem_cons] at ht
     rcases ht with rfl|ht
     ·exact (h2 (.put id t) (by simp)).1
     ·exact ih (fun u hu=>h2 u (by simp [hu])) ht
    | kill=>exact ih (fun u hu=>h2 u (by simp [hu])) ht
  ·unfold pV at hid
   rw [kV ht] at hid
   exact up _ (hI.alive id hid)
end
end Go.HL
end
section
namespace Go.HL
open Go.RowKit
def oQ (masks:List Nat) (k i:Nat):Bool:=(masks.getD i 0).testBit k
def qY (all:List aB) (x y:aB):Bool :=
 (match x.dst with|some d=>!(looks all y).contains d&&y.dst != some d|none=>true)&&(match y.dst with|some d=>!(looks all x).contains d|none=>true)
def oD (own:FuncId->Bool) (x y:aB):Bool:=(x.op.wrtO own&&y.op.touch) || (y.op.wrtO own&&x.op.touch)
def Iy (x y:aB):Bool:=(x.op.wrt&&y.op.touch) || (y.op.wrt&&x.op.touch)
theorem xK (x y:aB):oD (fun _=>false) x y=Iy x y:=by simp only [oD,Iy,HOp.wrtO_no]
def qO (o:aB):Bool:=match o.op,o.guard with
 | .ext (.t _) _,none=>true
 | _,_=>false
def xB (all:List aB) (x y:aB):Bool:=qY all x y&&(qO x || qO y || (!x.op.killer&&!y.op.killer))
def J4 (masks:List Nat) (all:List aB) (i:Nat) (o:aB):Bool :=
 decide (masks.getD i 0<2 ^ i)&&lL o&&(List.range i).all fun k=>oQ masks k i || (match all[k]? with|some q=>xB all q o|none=>false)
def mD (masks:List Nat) (all:List aB):Bool :=
 (List.range all.length).all fun i=>match all[i]? with|some o=>J4 masks all i o|none=>false
theorem nV {all:List aB} {x y:aB} (h:qY all x y=true):(∀d,x.dst=some d->d ∉ looks all y)/\(∀d,x.dst=some d->y.dst≠some d)/\(∀d,y.dst=some d->d ∉ looks all x):=by
 refine ⟨fun d hd=>?_,fun d hd=>?_,fun d hd=>?_⟩<;>simp [qY,hd] at h
 ·exact h.1.1
 ·exact h.1.2
 ·exact h.2
theorem BH {all:List aB} {x y:aB} (h:qY all x y=true):qY all y x=true:=by
 obtain ⟨h1,h2,h3⟩:=nV h
 unfold qY
 cases hx:x.dst with
 | none =>
  cases hy:y.dst with
  | none=>rfl
  | some d=>have:=h3 d hy;simp [this]
 | some d =>
  have a1:=h1 d hx
  have a2:=h2 d hx
  cases hy:y.dst with
  | none=>simp [a1]
  | some d' =>
   have a3:=h3 d' hy
   rw [hy] at a2
   have:¬ d=d':=fun e=>a2 (by rw [e])
   simp [a1,a3,this]
theorem EE (own:FuncId->Bool) (x y:aB):oD own x y=oD own y x:=by unfold oD;rw [Bool.or_comm]
def AZ (o:aB) (S:Lk):Option Nat:=match o.op.map (dA S) with
 | .load false _ (.pref id [] _)=>some id
 | _=>none
def kW (o:aB) (S:Lk):List Nat:=match AZ o S with
 | some id=>[2*id+1]
 | none=>(iP o S).map (2*·)
def zO (o:aB) (S:Lk):Option Nat:=match o.op.map (dA S) with
 | .app true _ _ (.ref id (_::_::_) _ _ _) _=>some id
 | _=>none
def nR (o:aB) (S:Lk) (us:List Upd):List Nat:=(ig us).flatMap fun x=>if zO o S=some x then [2*x] else [2*x,2*x+1]
def vS:HV->HV
 | .osl sz n _=>.osl sz n []
 | .optr _=>.optr []
 | .omap m ks _=>.omap m ks []
 | v=>v
def shallow (t:HV):List HV:=(bz t).map vS
def wB (c:Nat) (M M':Lk):Prop:=if c % 2=0 then M (c / 2)=M' (c / 2) else shallow (M (c / 2))=shallow (M' (c / 2))
theorem G9 {c:Nat} {M M':Lk} (h:M (c / 2)=M' (c / 2)):wB c M M':=by
 unfold wB;split
 ·exact h
 ·rw [h]
theorem qA {o:aB} {S:Lk} {c:Nat} (h:c∈kW o S):c / 2∈iP o S:=by
 unfold kW at h
 split at h
 ·rename_i id hs
  simp only [List.mem_singleton] at h
  subst h
  unfold AZ at hs
  split at hs
  ·rename_i sz id' off ho
   cases hs
   unfold iP
   rw [ho]
   simp [HOp.vals,bg,HV.deep];omega
  ·cases hs
 ·obtain ⟨x,hx,rfl⟩:=List.mem_map.1 h
  simpa using hx
theorem BN {o:aB} {S:Lk} {us:List Upd} {c:Nat} (h:c∈nR o S us):c / 2∈ig us:=by
 unfold nR at h
 obtain ⟨x,hx,hc⟩:=List.mem_flatMap.1 h
 split at hc
 ·simp only [List.mem_singleton] at hc;subst hc;simpa using hx
 ·simp only [List.mem_cons,List.not_mem_nil,or_false] at hc
  rcases hc with rfl|rfl
  ·simpa using hx
  ·have:(2*x+1) / 2=x:=by omega
   rw [this];exact hx
theorem xk {o:aB} {S:Lk} {us:List Upd} {x:Nat} (h:x∈ig us):2*x∈nR o S us:=by
 unfold nR
 refine List.mem_flatMap.2 ⟨x,h,?_⟩
 split<;>simp
theorem Gy {o:aB} {S:Lk} {us:List Upd} {x:Nat} (h:x∈ig us) (h2:2*x+1 ∉ nR o S us):zO o S=some x:=by
 by_cases hd:zO o S=some x
 ·exact hd
 ·exact absurd (List.mem_flatMap.2 ⟨x,h,by rw [if_neg hd];simp⟩) h2
theorem P5 {own:FuncId->Bool} {o:aB} {S:Lk} (h:o.op.wrtO own=true):kW o S=(iP o S).map (2*·):=by
 have:AZ o S=none:=by
  unfold AZ
  obtain ⟨d,op,g⟩:=o
  cases op<;>first|rfl|(simp only [HOp.wrtO,HOp.wrt] at h;cases h;done)
 unfold kW;rw [this]
theorem FD {x:HV} {a:Nat} {q:List Nat} (v:HV):vS (dK x v (a::q))=vS v:=by cases v<;>rfl
theorem BA {x t:HV} {a b:Nat} {q:List Nat}:shallow (dK x t (a::b::q))=shallow t:=by
 have key:∀cs:List HV,(cs.set a (dK x (cs.getD a .dead) (b::q))).map vS=cs.map vS:=fun cs=>by
  rw [List.map_set,FD]
  apply List.ext_getElem?
  intro k
  rw [List.getElem?_set]
  split
  ·rename_i e;subst e
   split
   ·rename_i h;simp at h;simp [h]
   ·rename_i h;simp at h;simp [h]
  ·rfl
 cases t<;>simp only [dK,shallow,bz]<;>first|rfl|exact key _
theorem yh (id:Nat) (p:List Nat) (j:Nat) (v:HV):look id p j v=look id p j (vS v):=by
 cases v<;>rfl
theorem zA {id off sz fr:Nat} {M M':Lk} (h:shallow (M id)=shallow (M' id)):az M fr (.load false sz (.pref id [] off))=az M' fr (.load false sz (.pref id [] off)):=by
 have hl:(bz (M id)).length=(bz (M' id)).length:=by
  have:=congrArg List.length h
  simpa [shallow] using this
 have hg:vS ((bz (M id)).getD off .dead)=vS ((bz (M' id)).getD off .dead):=by
  have:=congrArg (fun l:List HV=>l[off]?) h
  simp only [shallow,List.getElem?_map] at this
  simp only [List.getD_eq_getElem?_getD]
  cases h1:(bz (M id))[off]?<;>cases h2:(bz (M' id))[off]?<;>rw [h1,h2] at this<;>simp_all
 have e1:look id [] off ((bz (M id)).getD off .dead)=look id [] off ((bz (M' id)).getD off .dead):=by rw [yh,hg,<- yh]
 simp only [az,aG,e1,hl,Bool.false_eq_true,if_false]
abbrev jL:=List (Nat×List Nat×List Nat)
def chk (own:FuncId->Bool) (masks:List Nat) (all:List aB) (i:Nat) (o:aB) (e:HV×List Upd) (S:Lk) (q:Nat×List Nat×List Nat):Prop :=
 oQ masks q.1 i=false->oQ masks i q.1=false->∀o',all[q.1]?=some o'->oD own o' o=true->(∀x∈nR o S e.2,x ∉ q.2.2)/\∀x∈q.2.1,x ∉ kW o S
section
variable {C:CF} {D:DS} {all:List aB} {masks:List Nat} {nx:Nat} {K:Lk->Lk->Prop}
def dr (C:CF) (D:DS) (all:List aB) (masks:List Nat) (nx:Nat) (K:Lk->Lk->Prop):List Nat->jL->Lk->Lk->Prop
 | [],_,S,M=>K S M
 | i::l,log,S,M=>∃o,all[i]?=some o/\fO C D all (nx+stride*i) o S M/\(∃e,iy D all (nx+stride*i) o S M e) /\
   ∀e,iy D all (nx+stride*i) o S M e->(∀q∈log,chk D.own masks all i o e S q)/\dr C D all masks nx K l ((i,nR o S e.2,kW o S)::log) (jZ o e S) (pV e M)
theorem RY:∀ {l:List Nat} {log log':jL} {S M:Lk},dr C D all masks nx K l log S M->(∀q∈log',q∈log)->dr C D all masks nx K l log' S M:=by
 intro l
 induction l with
 | nil=>intro log log' S M h _;exact h
 | cons i l ih =>
  intro log log' S M h hl
  obtain ⟨o,ho,hs,he,h⟩:=h
  refine ⟨o,ho,hs,he,fun e hre=>⟨fun q hq=>(h e hre).1 q (hl q hq),ih (h e hre).2 ?_⟩⟩
  intro q hq
  rcases List.mem_cons.1 hq with rfl|hq
  ·simp
  ·exact List.mem_cons_of_mem _ (hl q hq)
theorem C9 {o:aB} {S S':Lk} (hS:∀t∈looks all o,S t=S' t):iP o S=iP o S':=by unfold iP;rw [jr hS]
theorem jS {o:aB} {S S':Lk} (hS:∀t∈looks all o,S t=S' t):kW o S=kW o S':=by unfold kW AZ;rw [C9 hS,jr hS]
theorem jT {o:aB} {S S':Lk} (hS:∀t∈looks all o,S t=S' t) (us:List Upd):nR o S us=nR o S' us:=by unfold nR zO;rw [jr hS]
theorem tZ {fr:Nat} {o:aB} {S S' M M':Lk} (hS:∀t∈looks all o,S t=S' t) (hM:o.op.touch=false\/∀c∈kW o S,wB c M M'):fO C D all fr o S M=fO C D all fr o S' M':=by
 rcases hM with h|h
 ·exact nS hS (.inl h)
 ·cases hs:AZ o S with
  | none =>
   unfold kW at h
   rw [hs] at h
   refine nS hS (.inr fun x hx=>?_)
   have:=h (2*x) (List.mem_map_of_mem hx)
   unfold wB at this
   rw [if_pos (by omega)] at this
   simpa using this
  | some id =>
   unfold kW at h
   rw [hs] at h
   have hv:=h (2*id+1) (by simp)
   unfold wB at hv
   rw [if_neg (by omega),show (2*id+1) / 2=id by omega] at hv
   unfold fO
   rw [<- um hS,<- jr hS]
   unfold AZ at hs
   split at hs
   ·rename_i sz id' off ho
    cases hs
    rw [ho]
    simp only [jg,zA hv]
   ·cases hs
theorem qX {fr:Nat} {o:aB} {e:HV×List Upd} {S S' M M':Lk} (hS:∀t∈looks all o,S t=S' t) (hM:o.op.touch=false\/∀c∈kW o S,wB c M M'):iy D all fr o S M e=iy D all fr o S' M' e:=by
 rcases hM with h|h
 ·exact oW hS (.inl h)
 ·cases hs:AZ o S with
  | none =>
   unfold kW at h
   rw [hs] at h
   refine oW hS (.inr fun x hx=>?_)
   have:=h (2*x) (List.mem_map_of_mem hx)
   unfold wB at this
   rw [if_pos (by omega)] at this
   simpa using this
  | some id =>
   unfold kW at h
   rw [hs] at h
   have hv:=h (2*id+1) (by simp)
   unfold wB at hv
   rw [if_neg (by omega),show (2*id+1) / 2=id by omega] at hv
   unfold iy
   rw [<- um hS,<- jr hS]
   unfold AZ at hs
   split at hs
   ·rename_i sz id' off ho
    cases hs
    rw [ho]
    simp only [ku,zA hv]
   ·cases hs
theorem Du {fr:Nat} {o:aB} {e:HV×List Upd} {S M:Lk} {x:Nat} (hs:fO C D all fr o S M) (hr:iy D all fr o S M e) (hd:zO o S=some x) (hx:x≠fr):shallow (pV e M x)=shallow (M x):=by
 unfold zO at hd
 split at hd
 ·rename_i sz bytes id a b q sz2 off n y ho
  cases hd
  unfold fO at hs
  unfold iy at hr
  split at hs
  ·rename_i hg
   rw [hg,ho] at hr
   rw [ho] at hs
   have hn:(dW M true sz y).2.2.1=[]:=by
    unfold dW
    split<;>(try split)<;>(try split)<;>first|rfl|simp_all
   simp only [jg,az] at hs
   simp only [ku,az] at hr
   rw [hn] at hs hr
   simp only [Lk.upd] at hs hr
   cases ht:aG (M x) (a::b::q)<;>rw [ht] at hs hr<;>simp only at hs hr<;>(first|exact hs.elim|skip)
   subst hr
   unfold pV
   simp only [List.nil_append,Lk.upd,if_neg hx,if_true]
   exact BA
  ·rename_i hg
   rw [hg] at hr
   subst hr
   rfl
  ·exact hs.elim
 ·cases hd
theorem vF {o:aB} (h:qO o=true):∃d k i,o=⟨d,.ext (.t k) i,none⟩:=by
 obtain ⟨d,op,g⟩:=o
 cases op<;>simp only [qO] at h<;>(first|(cases h;done)|skip)
 rename_i x i
 cases x<;>cases g<;>simp only at h<;>(first|(cases h;done)|exact ⟨d,_,i,rfl⟩)
theorem nG {own:FuncId->Bool} {o o':aB} (h:qO o=true):oD own o' o=false/\oD own o o'=false:=by
 obtain ⟨d,k,i,rfl⟩:=vF h
 simp [oD,HOp.wrtO,HOp.wrt,HOp.touch]
def iD:List Upd->HV->HV
 | [],v=>v
 | .put _ _::r,v=>iD r v
 | .kill id len::r,v=>iD r (v.kill id len)
theorem vz:∀ (us:List Upd) (S:Lk) (t:Nat),qB S us t=iD us (S t)
 | [],_,_=>rfl
 | .put _ _::r,S,t=>vz r S t
 | .kill id len::r,S,t=>vz r (fun t=>(S t).kill id len) t
theorem zU (id len:Nat):∀l:List HV,lM id len l=l.map fun v=>v.kill id len
 | []=>rfl
 | v::r=>by rw [lM,zU id len r];rfl
theorem mF:∀ (us:List Upd) (cs:List HV),iD us (.tup cs)=.tup (cs.map (iD us))
 | [],cs=>by simp [iD]
 | .put _ _::r,cs=>by simp only [iD];exact mF r cs
 | .kill id len::r,cs=>by
  simp only [iD,HV.kill,zU]
  rw [mF r,List.map_map]
  rfl
theorem pY:∀ (us:List Upd) (v:HV) {cs:List HV},iD us v=.tup cs->∃cs',v=.tup cs'
 | [],v,cs,h=>⟨cs,h⟩
 | .put _ _::r,v,cs,h=>pY r v h
 | .kill id len::r,v,cs,h=>by
  obtain ⟨cs',h'⟩:=pY r _ h
  cases v<;>simp only [HV.kill] at h'<;>(first|exact ⟨_,rfl⟩|(cases h';done)|(split at h'<;>cases h'))
theorem rP {d:Option Nat} {k i fr:Nat} {S M:Lk} {e:HV×List Upd} (hs:fO C D all fr ⟨d,.ext (.t k) i,none⟩ S M):iy D all fr ⟨d,.ext (.t k) i,none⟩ S M e <-> ∃cs,S k=.tup cs/\i<cs.length/\e=(cs.getD i .dead,[]):=by
 have hs':(az M fr (.ext (S k) i)).2.2:=hs
 have hd:iy D all fr ⟨d,.ext (.t k) i,none⟩ S M e <-> e=((az M fr (.ext (S k) i)).1,(az M fr (.ext (S k) i)).2.1):=Iff.rfl
 rw [hd]
 cases hk:S k<;>rw [hk] at hs'<;>simp only [az] at hs' ⊢<;>(first|exact hs'.elim|skip)
 rename_i cs
 constructor
 ·intro h;exact ⟨cs,rfl,hs',h⟩
 ·rintro ⟨cs',h1,h2,h3⟩;cases h1;exact h3
theorem ext_side {d:Option Nat} {k i fr:Nat} {S M:Lk}:fO C D all fr ⟨d,.ext (.t k) i,none⟩ S M <-> ∃cs,S k=.tup cs/\i<cs.length:=by
 have hd:fO C D all fr ⟨d,.ext (.t k) i,none⟩ S M <-> (az M fr (.ext (S k) i)).2.2:=Iff.rfl
 rw [hd]
 cases hk:S k<;>simp [az]
theorem FY:∀ {l:List Nat} {log log':jL} {S M:Lk},dr C D all masks nx K l log S M->(∀q∈log',q∈log\/∃o,all[q.1]?=some o/\qO o=true)->dr C D all masks nx K l log' S M:=by
 intro l
 induction l with
 | nil=>intro log log' S M h _;exact h
 | cons i l ih =>
  intro log log' S M h hl
  obtain ⟨o,ho,hs,he,h⟩:=h
  refine ⟨o,ho,hs,he,fun e hre=>⟨fun q hq=>?_,ih (h e hre).2 ?_⟩⟩
  ·rcases hl q hq with h1|⟨o1,h1,h2⟩
   ·exact (h e hre).1 q h1
   ·intro _ _ o' ho' hsu
    rw [h1] at ho';cases ho'
    rw [(nG h2).2] at hsu;cases hsu
  ·intro q hq
   rcases List.mem_cons.1 hq with rfl|hq
   ·exact .inl (by simp)
   ·rcases hl q hq with h|h
    ·exact .inl (List.mem_cons_of_mem _ h)
    ·exact .inr h
theorem mf (o:aB) (e:HV×List Upd) (S:Lk) (t:Nat):jZ o e S t=if o.dst=some t then e.1 else iD e.2 (S t):=by
 unfold jZ;rw [vz]
theorem DT {i j:Nat} {l:List Nat} {log:jL} {S M:Lk} {oi oj:aB} (hoi:all[i]?=some oi) (hoj:all[j]?=some oj) (hx:qO oi=true) (hap:qY all oi oj=true) (h:dr C D all masks nx K (i::j::l) log S M):dr C D all masks nx K (j::i::l) log S M:=by
 obtain ⟨oi',hoi',si,⟨ei,ri⟩,hi⟩:=h
 rw [hoi] at hoi';cases hoi'
 have hxx:=hx
 obtain ⟨d,k,n,rfl⟩:=vF hx
 obtain ⟨ap1,ap2,ap3⟩:=nV hap
 obtain ⟨cs,hk,hn,rfl⟩:=(rP si).1 ri
 obtain ⟨_,oj',hoj',sj,⟨ej0,rj0⟩,hj⟩:=hi _ ri
 rw [hoj] at hoj';cases hoj'
 have lj:∀t∈looks all oj,S t=jZ ⟨d,.ext (.t k) n,none⟩ (cs.getD n .dead,[]) S t:=fun t ht=>by
  rw [mf,if_neg (fun e=>ap1 t e ht)];rfl
 have aj:oj.op.touch=false\/∀x∈iP oj S,M x=pV (cs.getD n .dead,[]) M x:=.inr fun _ _=>rfl
 have ej:=fun e=>oW (D:=D) (fr:=nx+stride*j) (e:=e) lj aj
 have hkd:∀t,oj.dst=some t->t≠k:=fun t ht e=>ap3 t ht (by subst e;simp [looks,HOp.vals,slotsOf])
 refine ⟨oj,hoj,by rw [nS lj aj];exact sj,⟨ej0,by rw [ej];exact rj0⟩,fun e2 r2=>⟨?_,?_⟩⟩
 ·intro q hq a b o' ho' hs
  have:=(hj e2 (by rw [<- ej];exact r2)).1 q (List.mem_cons_of_mem _ hq) a b o' ho' hs
  rw [<- jS lj,<- jT lj] at this
  exact this
 ·have hk2:jZ oj e2 S k=.tup (cs.map (iD e2.2)):=by
   rw [mf,if_neg (fun e=>hkd k e rfl),hk,mF]
  have si2:fO C D all (nx+stride*i) ⟨d,.ext (.t k) n,none⟩ (jZ oj e2 S) (pV e2 M):=ext_side.2 ⟨_,hk2,by simpa using hn⟩
  refine ⟨_,hoi,si2,⟨_,(rP si2).2 ⟨_,hk2,by simpa using hn,rfl⟩⟩,fun e1 r1=>⟨?_,?_⟩⟩
  ·intro q hq a b o' ho' hs
   rw [(nG hxx).1] at hs;cases hs
  ·obtain ⟨cs2,hk3,hn2,rfl⟩:=(rP si2).1 r1
   rw [hk2] at hk3;cases hk3
   have hd:=(hj e2 (by rw [<- ej];exact r2)).2
   have eS:jZ oj e2 (jZ ⟨d,.ext (.t k) n,none⟩ (cs.getD n .dead,[]) S)=jZ ⟨d,.ext (.t k) n,none⟩ ((cs.map (iD e2.2)).getD n .dead,[]) (jZ oj e2 S):=by
    funext t
    simp only [mf]
    have hg:(cs.map (iD e2.2)).getD n .dead=iD e2.2 (cs.getD n .dead):=by
     simp only [List.getD_eq_getElem?_getD,List.getElem?_map,List.getElem?_eq_getElem hn,Option.map_some,Option.getD_some]
    by_cases h1:d=some t
    ·have:¬ oj.dst=some t:=ap2 t h1
     simp only [h1,this,if_true,if_false,hg,iD]
    ·simp only [h1,if_false,iD]
   rw [eS] at hd
   refine FY hd fun q hq=>?_
   simp only [List.mem_cons] at hq
   rcases hq with rfl|rfl|hq
   ·exact .inr ⟨_,hoi,hxx⟩
   ·rw [jS lj,jT lj];exact .inl (List.mem_cons_self ..)
   ·exact .inl (List.mem_cons_of_mem _ (List.mem_cons_of_mem _ hq))
theorem Bg {i j:Nat} {l:List Nat} {log:jL} {S M:Lk} {oi oj:aB} (hoi:all[i]?=some oi) (hoj:all[j]?=some oj) (hx:qO oi=true) (hap:qY all oi oj=true) (h:dr C D all masks nx K (j::i::l) log S M):dr C D all masks nx K (i::j::l) log S M:=by
 obtain ⟨oj',hoj',sj,⟨ej0,rj0⟩,hj⟩:=h
 rw [hoj] at hoj';cases hoj'
 have hxx:=hx
 obtain ⟨d,k,n,rfl⟩:=vF hx
 obtain ⟨ap1,ap2,ap3⟩:=nV hap
 have hkd:∀t,oj.dst=some t->t≠k:=fun t ht e=>ap3 t ht (by subst e;simp [looks,HOp.vals,slotsOf])
 have hk2:∀e2,jZ oj e2 S k=iD e2.2 (S k):=fun e2=>by rw [mf,if_neg (fun e=>hkd k e rfl)]
 obtain ⟨_,oi',hoi',si0,_,_⟩:=hj ej0 rj0
 rw [hoi] at hoi';cases hoi'
 obtain ⟨cs0,hk0,hn0⟩:=ext_side.1 si0
 rw [hk2] at hk0
 obtain ⟨cs,hk⟩:=pY _ _ hk0
 rw [hk,mF] at hk0
 cases hk0
 have hn:n<cs.length:=by simpa using hn0
 have si:fO C D all (nx+stride*i) ⟨d,.ext (.t k) n,none⟩ S M:=ext_side.2 ⟨cs,hk,hn⟩
 refine ⟨_,hoi,si,⟨_,(rP si).2 ⟨cs,hk,hn,rfl⟩⟩,fun e1 r1=>⟨fun q hq a b o' ho' hs=>?_,?_⟩⟩
 ·rw [(nG hxx).1] at hs;cases hs
 ·obtain ⟨cs1,hk1,_,rfl⟩:=(rP si).1 r1
  rw [hk] at hk1;cases hk1
  have lj:∀t∈looks all oj,S t=jZ ⟨d,.ext (.t k) n,none⟩ (cs.getD n .dead,[]) S t:=fun t ht=>by
   rw [mf,if_neg (fun e=>ap1 t e ht)];rfl
  have aj:oj.op.touch=false\/∀x∈iP oj S,M x=pV (cs.getD n .dead,[]) M x:=.inr fun _ _=>rfl
  have ej:=fun e=>oW (D:=D) (fr:=nx+stride*j) (e:=e) lj aj
  refine ⟨oj,hoj,by rw [<- nS lj aj];exact sj,⟨ej0,by rw [<- ej];exact rj0⟩,fun e2 r2=>⟨?_,?_⟩⟩
  ·intro q hq a b o' ho' hs
   rcases List.mem_cons.1 hq with rfl|hq
   ·simp only at ho'
    rw [hoi] at ho';cases ho'
    rw [(nG hxx).2] at hs;cases hs
   ·have:=(hj e2 (by rw [ej];exact r2)).1 q hq a b o' ho' hs
    rw [jS lj,jT lj] at this
    exact this
  ·obtain ⟨_,oi',hoi',si2,_,hi⟩:=hj e2 (by rw [ej];exact r2)
   rw [hoi] at hoi';cases hoi'
   have hk3:jZ oj e2 S k=.tup (cs.map (iD e2.2)):=by rw [hk2,hk,mF]
   have hd:=(hi _ ((rP si2).2 ⟨_,hk3,by simpa using hn,rfl⟩)).2
   have eS:jZ oj e2 (jZ ⟨d,.ext (.t k) n,none⟩ (cs.getD n .dead,[]) S)=jZ ⟨d,.ext (.t k) n,none⟩ ((cs.map (iD e2.2)).getD n .dead,[]) (jZ oj e2 S):=by
    funext t
    simp only [mf]
    have hg:(cs.map (iD e2.2)).getD n .dead=iD e2.2 (cs.getD n .dead):=by
     simp only [List.getD_eq_getElem?_getD,List.getElem?_map,List.getElem?_eq_getElem hn,Option.map_some,Option.getD_some]
    by_cases h1:d=some t
    ·have:¬ oj.dst=some t:=ap2 t h1
     simp only [h1,this,if_true,if_false,hg,iD]
    ·simp only [h1,if_false,iD]
   rw [<- eS] at hd
   refine FY hd fun q hq=>?_
   simp only [List.mem_cons] at hq
   rcases hq with rfl|rfl|hq
   ·rw [<- jS lj,<- jT lj];exact .inl (List.mem_cons_of_mem _ (List.mem_cons_self ..))
   ·exact .inr ⟨_,hoi,hxx⟩
   ·exact .inl (List.mem_cons_of_mem _ (List.mem_cons_of_mem _ hq))
theorem Qu {X:Nat->Prop} {i j:Nat} {l:List Nat} {log:jL} {S M:Lk} {oi oj:aB} (hij:i≠j) (hoi:all[i]?=some oi) (hoj:all[j]?=some oj) (hp:xB all oi oj=true) (hli:lL oi=true) (hlj:lL oj=true)
  (hb1:oQ masks i j=false) (hb2:oQ masks j i=false) (hI:Inv nx X S M) (hXi:¬ X i) (hXj:¬ X j) (h:dr C D all masks nx K (i::j::l) log S M):dr C D all masks nx K (j::i::l) log S M:=by
 simp only [xB,Bool.and_eq_true,Bool.or_eq_true,Bool.not_eq_true'] at hp
 obtain ⟨hap,(hx|hx)|⟨hki,hkj⟩⟩:=hp
 ·exact DT hoi hoj hx hap h
 ·exact Bg hoj hoi hx (BH hap) h
 obtain ⟨oi',hoi',si,⟨ei0,ri0⟩,hi⟩:=h
 rw [hoi] at hoi';cases hoi'
 obtain ⟨ap1,ap2,ap3⟩:=nV hap
 have inI:∀x∈iP oi S,pz nx X x:=fun x hx=>innL_iff.1 (tY hI hli) x hx
 have inJ:∀x∈iP oj S,pz nx X x:=fun x hx=>innL_iff.1 (tY hI hlj) x hx
 have wt:∀o:aB,o.op.wrtO D.own=true->o.op.touch=true:=fun o=>by cases o.op<;>simp [HOp.wrtO,HOp.wrt,HOp.touch]
 have lj:∀ei,iy D all (nx+stride*i) oi S M ei->∀t∈looks all oj,S t=jZ oi ei S t:=fun ei re t ht=>by
  obtain ⟨_,_,_,f4⟩:=nH hI hli si re
  unfold jZ
  rw [if_neg (fun e=>ap1 t e ht),jG (f4 hki)]
 have aj:∀ei,iy D all (nx+stride*i) oi S M ei->oj.op.touch=false\/∀c∈kW oj S,wB c M (pV ei M):=fun ei re=>by
  obtain ⟨_,_,f3,f4⟩:=nH hI hli si re
  obtain ⟨_,oj',hoj',sj,⟨ej0,rj0⟩,hj⟩:=hi ei re
  rw [hoj] at hoj';cases hoj'
  cases htj:oj.op.touch with
  | false=>exact .inl rfl
  | true =>
   right
   intro c hc
   have hx:=qA hc
   by_cases hxt:c / 2∈ig ei.2
   ·rcases f3 _ hxt with hr|⟨hw,_⟩
    ·exact absurd (nJ (inJ _ hx) hr) hXi
    ·have hck:=((hj ej0 rj0).1 _ (List.mem_cons_self ..) hb1 hb2 oi hoi (by simp [oD,hw,htj])).2
     by_cases hcw:c∈nR oi S ei.2
     ·exact absurd (by rw [<- jS (lj ei re)];exact hc) (hck c hcw)
     ·have hodd:c % 2=1:=by
       rcases Nat.mod_two_eq_zero_or_one c with h0|h0
       ·have:=xk (o:=oi) (S:=S) hxt
        rw [show 2*(c / 2)=c by omega] at this
        exact absurd this hcw
       ·exact h0
      have hd:=Gy (o:=oi) (S:=S) hxt (by rw [show 2*(c / 2)+1=c by omega];exact hcw)
      unfold wB
      rw [if_neg (by omega)]
      exact (Du si re hd (fun e=>hXi (nJ (inJ _ hx) (by rw [e];unfold uA stride;omega)))).symm
   ·exact G9 (kV hxt).symm
 obtain ⟨_,oj',hoj',sj,⟨ej0,rj0⟩,hj0⟩:=hi ei0 ri0
 rw [hoj] at hoj';cases hoj'
 have ej:∀ei,iy D all (nx+stride*i) oi S M ei->∀e,iy D all (nx+stride*j) oj S M e=iy D all (nx+stride*j) oj (jZ oi ei S) (pV ei M) e:=fun ei re e=>qX (lj ei re) (aj ei re)
 have sj':fO C D all (nx+stride*j) oj S M:=by rw [tZ (lj ei0 ri0) (aj ei0 ri0)];exact sj
 refine ⟨oj,hoj,sj',⟨ej0,by rw [ej ei0 ri0];exact rj0⟩,fun e2 r2=>⟨?_,?_⟩⟩
 ·intro q hq a b o' ho' hs
  have:=(hj0 e2 (by rw [<- ej ei0 ri0];exact r2)).1 q (List.mem_cons_of_mem _ hq) a b o' ho' hs
  rw [<- jS (lj ei0 ri0),<- jT (lj ei0 ri0)] at this
  exact this
 ·obtain ⟨_,_,g3,g4⟩:=nH hI hlj sj' r2
  have li:∀t∈looks all oi,S t=jZ oj e2 S t:=fun t ht=>by
   unfold jZ
   rw [if_neg (fun e=>ap3 t e ht),jG (g4 hkj)]
  have ai:oi.op.touch=false\/∀c∈kW oi S,wB c M (pV e2 M):=by
   cases hti:oi.op.touch with
   | false=>exact .inl rfl
   | true =>
    right
    intro c hc
    have hx:=qA hc
    by_cases hxt:c / 2∈ig e2.2
    ·rcases g3 _ hxt with hr|⟨hw,_⟩
     ·exact absurd (nJ (inI _ hx) hr) hXj
     ·have hck:=((hj0 e2 (by rw [<- ej ei0 ri0];exact r2)).1 _ (List.mem_cons_self ..) hb1 hb2 oi hoi (by simp [oD,hw,hti])).1
      rw [<- jT (lj ei0 ri0)] at hck
      by_cases hcw:c∈nR oj S e2.2
      ·exact absurd hc (hck c hcw)
      ·have hodd:c % 2=1:=by
        rcases Nat.mod_two_eq_zero_or_one c with h0|h0
        ·have:=xk (o:=oj) (S:=S) hxt
         rw [show 2*(c / 2)=c by omega] at this
         exact absurd this hcw
        ·exact h0
       have hd:=Gy (o:=oj) (S:=S) hxt (by rw [show 2*(c / 2)+1=c by omega];exact hcw)
       unfold wB
       rw [if_neg (by omega)]
       exact (Du sj' r2 hd (fun e=>hXj (nJ (inI _ hx) (by rw [e];unfold uA stride;omega)))).symm
    ·exact G9 (kV hxt).symm
  refine ⟨oi,hoi,by rw [<- tZ li ai];exact si,⟨ei0,by rw [<- qX li ai];exact ri0⟩,fun e1 r1=>?_⟩
  rw [<- qX li ai] at r1
  obtain ⟨c1,oj',hoj',_,_,hj⟩:=hi e1 r1
  rw [hoj] at hoj';cases hoj'
  obtain ⟨d1,d2⟩:=hj e2 (by rw [<- ej e1 r1];exact r2)
  obtain ⟨_,_,f3,f4⟩:=nH hI hli si r1
  have eoi:=jS li
  have eoj:=jS (lj e1 r1)
  have ewi:=jT li e1.2
  have ewj:=jT (lj e1 r1) e2.2
  refine ⟨?_,?_⟩
  ·intro q hq a b o' ho' hs
   rcases List.mem_cons.1 hq with rfl|hq
   ·simp only at ho'
    rw [hoj] at ho';cases ho'
    have:=d1 _ (List.mem_cons_self ..) hb1 hb2 oi hoi (by rw [EE];exact hs)
    simp only [<- eoj,<- ewj] at this
    simp only [<- eoi,<- ewi]
    exact ⟨this.2,this.1⟩
   ·have:=c1 q hq a b o' ho' hs
    rw [eoi,ewi] at this
    exact this
  ·have eS:jZ oj e2 (jZ oi e1 S)=jZ oi e1 (jZ oj e2 S):=by
    funext t
    unfold jZ
    rw [jG (f4 hki),jG (g4 hkj),jG (g4 hkj),jG (f4 hki)]
    by_cases h1:oi.dst=some t
    ·have:¬ oj.dst=some t:=ap2 t h1
     simp [h1,this]
    ·simp [h1]
   have eM:pV e2 (pV e1 M)=pV e1 (pV e2 M):=by
    funext x
    unfold pV
    by_cases h1:x∈ig e1.2
    ·have h2:x ∉ ig e2.2:=fun h2=>by
      rcases f3 x h1 with a|⟨w1,a⟩<;>rcases g3 x h2 with b|⟨w2,b⟩
      ·exact hij (F8 a b)
      ·exact hXi (nJ (inJ x b) a)
      ·exact hXj (nJ (inI x a) b)
      ·have:=(d1 _ (List.mem_cons_self ..) hb1 hb2 oi hoi (by simp [oD,w1,wt oj w2])).1 (2*x) (xk h2)
       simp only [P5 w1] at this
       exact this (List.mem_map_of_mem a)
     rw [kV h2]
     exact tK (.inl h1)
    ·rw [kV h1]
     by_cases h2:x∈ig e2.2
     ·exact tK (.inl h2)
     ·rw [kV h2,kV h1,kV h2]
   rw [<- eS,<- eM]
   refine RY d2 fun q hq=>?_
   simp only [<- eoi,<- eoj,<- ewi,<- ewj,List.mem_cons] at hq ⊢
   rcases hq with h|h|h
   ·exact .inr (.inl h)
   ·exact .inl h
   ·exact .inr (.inr h)
theorem BP {j:Nat} {oj:aB} (hoj:all[j]?=some oj) (hlj:lL oj=true):∀ (l1 l2:List Nat) (X:Nat->Prop) (log:jL) (S M:Lk),Inv nx X S M->¬ X j->(∀i∈l1,i≠j/\¬ X i/\∃oi,all[i]?=some oi/\lL oi=true/\xB all oi oj=true/\oQ masks i j=false/\oQ masks j i=false)->l1.Nodup ->
  dr C D all masks nx K (l1++j::l2) log S M->dr C D all masks nx K (j::(l1++l2)) log S M:=by
 intro l1
 induction l1 with
 | nil=>intro l2 X log S M _ _ _ _ h;exact h
 | cons i l1 ih =>
  intro l2 X log S M hI hXj hl hnd h
  obtain ⟨hij,hXi,oi,hoi,hli,hp,hb1,hb2⟩:=hl i (by simp)
  refine Qu hij hoi hoj hp hli hlj hb1 hb2 hI hXi hXj ?_
  obtain ⟨o,ho,hs,he,h⟩:=h
  rw [hoi] at ho;cases ho
  refine ⟨oi,hoi,hs,he,fun e re=>⟨(h e re).1,?_⟩⟩
  obtain ⟨f1,f2,_,_⟩:=nH hI hli hs re
  rw [List.nodup_cons] at hnd
  refine ih l2 (fun k=>X k\/k=i) _ _ _ (hI.step f1 f2) (fun hx=>hx.elim hXj fun e=>hij e.symm) (fun k hk=>?_) hnd.2 (h e re).2
  obtain ⟨a,b,c⟩:=hl k (by simp [hk])
  exact ⟨a,fun hx=>hx.elim b fun e=>hnd.1 (e▸hk),c⟩
end
end Go.HL
end
section
namespace Go.HL
open Go.RowKit
section
variable {E:Fr} {N:Nat} {S M:Lk} {loc:Nat->Value} {fp:Nat->List Nat} {a:Act} {w:World}
theorem OW.inn {F:Nat->Prop} {h:Hp} {R:HV->Value->Prop} {vs rvs fs} (o:OW F h R vs rvs fs) {p:Nat->Prop} (hp:∀v rv id,R v rv->fE v=some id->p id):innL p vs:=by
 induction o with
 | nil=>simp
 | @leaf R v rv r rr fs a b c d e f g _ ih =>
  have ih':=ih hp
  cases v<;>simp [gp] at a b c d e f
  ·simp only [aV,Bv];exact ⟨hp _ _ _ g rfl,ih'⟩
  ·simp only [aV,uj];exact ⟨hp _ _ _ g rfl,ih'⟩
  ·simpa using ih'
  ·simp only [aV,uq];exact ⟨hp _ _ _ g rfl,ih'⟩
  ·exact absurd rfl (c _ _ _ _ rfl rfl rfl)
 | int _ ih=>simpa using ih hp
 | bool _ ih=>simpa using ih hp
 | str _ ih=>simpa using ih hp
 | nils _ ih=>simpa using ih hp
 | nilp _ ih=>simpa using ih hp
 | nilf _ ih=>simpa using ih hp
 | dead _ ih=>simpa using ih hp
 | sl0 _ ih=>simpa using ih hp
 | sl a b c d _ _ ih1 ih2=>simp only [aV,MV];exact ⟨ih1 fun _ _ _ h=>h.elim,ih2 hp⟩
 | osl0 _ ih=>simpa using ih hp
 | osl a b c d e f _ _ ih1 ih2=>simp only [aV,rU];exact ⟨ih1 fun _ _ _ h=>h.elim,ih2 hp⟩
 | ptr a b c _ _ ih1 ih2=>simp only [aV,wJ];exact ⟨ih1 fun _ _ _ h=>h.elim,ih2 hp⟩
 | optr a _ _ ih1 ih2=>simp only [aV,D7];exact ⟨ih1 fun _ _ _ h=>h.elim,ih2 hp⟩
 | nilm _ ih=>simpa using ih hp
 | rmap a b c _ _ ih1 ih2=>simp only [aV,yf];exact ⟨ih1 fun _ _ _ h=>h.elim,ih2 hp⟩
 | omap a b _ _ ih1 ih2=>simp only [aV,oH];exact ⟨ih1 fun _ _ _ h=>h.elim,ih2 hp⟩
 | oitr _ _ ih=>simpa using ih hp
 | agg _ _ ih1 ih2=>simp only [aV,nK];exact ⟨ih1 hp,ih2 hp⟩
 | tup _ _ ih1 ih2=>simp only [aV,rM];exact ⟨ih1 hp,ih2 hp⟩
 | fn _ _ ih1 ih2=>simp only [aV,vH];exact ⟨ih1 hp,ih2 hp⟩
theorem OW.rn {F:Nat->Prop} {h:Hp} {R R':HV->Value->Prop} {vs rvs fs} (g:Nat->Nat) (o:OW F h R vs rvs fs) (hfs:fs=[]) (hl:∀v rv,R v rv->∃id,fE v=some id) (hr:∀v rv,R v rv->R' (v.rn g) rv):OW F h R' (Qo g vs) rvs []:=by
 induction o with
 | nil=>exact .nil
 | @leaf R v rv r rr fs a b c d e f gg _ ih =>
  have ih':=ih hfs hl hr
  obtain ⟨id,hid⟩:=hl _ _ gg
  have h1:=hr _ _ gg
  have:(fE (v.rn g)).isSome=true:=by cases v<;>simp [fE] at hid<;>simp [HV.rn,fE]
  exact (dL this h1).cons1 ih'
 | int _ ih=>exact .int (ih hfs hl hr)
 | bool _ ih=>exact .bool (ih hfs hl hr)
 | str _ ih=>exact .str (ih hfs hl hr)
 | nils _ ih=>exact .nils (ih hfs hl hr)
 | nilp _ ih=>exact .nilp (ih hfs hl hr)
 | nilf _ ih=>exact .nilf (ih hfs hl hr)
 | dead _ ih=>exact .dead (ih hfs hl hr)
 | sl0 _ ih=>exact .sl0 (ih hfs hl hr)
 | sl a b c d e _ _ ih=>exact .sl a b c d e (ih hfs hl hr)
 | osl0 _ ih=>exact .osl0 (ih hfs hl hr)
 | osl=>simp at hfs
 | ptr a b c d _ _ ih=>exact .ptr a b c d (ih hfs hl hr)
 | optr=>simp at hfs
 | nilm _ ih=>exact .nilm (ih hfs hl hr)
 | rmap a b c d _ _ ih=>exact .rmap a b c d (ih hfs hl hr)
 | omap=>simp at hfs
 | oitr=>simp at hfs
 | agg _ _ ih1 ih2 =>
  obtain ⟨rfl,rfl⟩:_=[]/\_=[]:=by simpa using hfs
  exact .agg (ih1 rfl hl hr) (ih2 rfl hl hr)
 | tup _ _ ih1 ih2 =>
  obtain ⟨rfl,rfl⟩:_=[]/\_=[]:=by simpa using hfs
  exact .tup (ih1 rfl hl hr) (ih2 rfl hl hr)
 | fn _ _ ih1 ih2 =>
  obtain ⟨rfl,rfl⟩:_=[]/\_=[]:=by simpa using hfs
  exact .fn (ih1 rfl hl hr) (ih2 rfl hl hr)
theorem Rel.rename (hr:Rel E N S M loc fp a w) (g:Nat->Nat) (hg:∀x,g (g x)=x) (hN:∀x,x<N->g x<N):Rel E N (fun t=>(S t).rn g) (fun k=>M (g k)) (fun k=>loc (g k)) (fun k=>fp (g k)) a w:=by
 have inj:∀x y,g x=g y->x=y:=fun x y h=>by rw [<- hg x,<- hg y,h]
 have hfz:∀b,fA E fp w b->fA E (fun k=>fp (g k)) w b:=fun b ⟨h1,h2,h3⟩=>⟨h1,h2,fun k=>h3 (g k)⟩
 refine ⟨hr.below,hr.base,hr.size,fun id h=>(hr.tree (g id) h).stable (fun _ _=>rfl) (fun b hb=>⟨hfz b hb,rfl⟩) (fun _ _ h=>h),fun id h=>hr.gone (g id) h,fun id h=>hr.new (g id) ?_,fun id=>hr.nodup (g id),fun i j hij=>hr.apart (g i) (g j) (fun e=>hij (inj _ _ e)),fun id=>hr.fresh (g id),fun t=>?_,hr.defers⟩
 ·rcases Nat.lt_or_ge (g id) N with h'|h'
  ·have:=hN _ h'
   rw [hg] at this
   omega
  ·exact h'
 ·have:=(hr.slots t).rn (R':=RefR N (fun k=>M (g k)) (fun k=>loc (g k)) w.heap) g rfl (fun v rv h=>by obtain ⟨id,h1,_⟩:=h.isRef;exact ⟨id,h1⟩) (by
   intro v rv hv
   cases v<;>(try exact hv.elim)
   ·obtain ⟨a1,a2,a3,a4,a5⟩:=hv
    exact ⟨hN _ a1,a2,a3,by simp only [hg];exact a4,by simp only [hg];exact a5⟩
   ·obtain ⟨a1,a2,a3,a4⟩:=hv
    exact ⟨hN _ a1,a2,a3,by simp only [hg];exact a4⟩
   ·obtain ⟨a1,a2,a3,a4,a5⟩:=hv
    exact ⟨hN _ a1,a2,a3,by simp only [hg];exact a4,by simp only [hg];exact a5⟩)
  exact this.stable (by simp) (fun b hb=>⟨hfz b hb,rfl⟩) (fun _ _ h=>h)
def N7 (N0 f m x:Nat):Nat:=if N0<=x/\x<N0+m then x - N0+f else if f<=x/\x<f+m then x - f+N0 else x
theorem OY {N0 f m:Nat} (h:f+m<=N0) (x:Nat):N7 N0 f m (N7 N0 f m x)=x:=by
 unfold N7
 by_cases h1:N0<=x/\x<N0+m
 ·rw [if_pos h1,if_neg (by omega),if_pos (by omega)];omega
 ·rw [if_neg h1]
  by_cases h2:f<=x/\x<f+m
  ·rw [if_pos h2,if_pos (by omega)];omega
  ·rw [if_neg h2,if_neg h1,if_neg h2]
theorem Sj {N0 f m:Nat} (h:f+m<=N0) (x:Nat) (hx:x<N0+m):N7 N0 f m x<N0+m:=by
 unfold N7;split
 ·omega
 ·split<;>omega
theorem Ue {g:Nat->Nat} (hg:∀x,g (g x)=x):∀ (us:List Upd) (A B:Lk),(∀k,A (g k)=B k)->∀k,Lk.upd A us (g k)=Lk.upd B (us.map (BF g)) k:=by
 intro us
 induction us with
 | nil=>intro A B h k;exact h k
 | cons u us ih =>
  intro A B h k
  cases u with
  | put id t =>
   simp only [List.map_cons,BF,Lk.upd]
   refine ih _ _ (fun k=>?_) k
   by_cases hk:g k=id
   ·have:k=g id:=by rw [<- hk,hg]
    rw [if_pos hk,if_pos this]
   ·have:¬ k=g id:=fun e=>hk (by rw [e,hg])
    rw [if_neg hk,if_neg this]
    exact h k
  | kill id n=>exact ih A B h k
theorem Pv {g:Nat->Nat} (hg:∀x,g (g x)=x) {us:List Upd} (hu:∀x∈ig us,g x=x) (hM:∀k,g k≠k->M k=.dead) (k:Nat):Lk.upd M us (g k)=Lk.upd M us k:=by
 by_cases hk:g k=k
 ·rw [hk]
 ·rw [kV fun h=>hk (hu k h),kV fun h=>by have:=hu _ h;rw [hg] at this;exact hk this.symm,hM k hk,hM (g k) (by rw [hg];exact fun e=>hk e.symm)]
end
end Go.HL
end
section
namespace Go.HL
open Go.RowKit
theorem HT.deep {P:Program} {f:FuncId} {args:List HV} {K:HV->Prop} (h:HT P f args K):HT P f args fun r=>K r/\r.deep=[] :=
 ⟨h.1,fun w rargs F hF hargs=>(h.2 w rargs F hF hargs).mono fun _ _ ⟨rv,res,fs,h1,h2,h3,h4⟩=>⟨rv,res,fs,h1,⟨h2,by
  have:=h3.inn (p:=fun _=>False) (fun _ _ _ h=>h.elim)
  simp only [aV,Ec,and_true] at this
  exact List.eq_nil_iff_forall_not_mem.2 fun x hx=>this x hx⟩,h3,h4⟩⟩
theorem HT.imp {P:Program} {f:FuncId} {args:List HV} {K K':HV->Prop} (h:HT P f args K) (hk:∀r,K r->K' r):HT P f args K' :=
 ⟨h.1,fun w rargs F hF hargs=>(h.2 w rargs F hF hargs).mono fun _ _ ⟨rv,res,fs,h1,h2,h3⟩=>⟨rv,res,fs,h1,hk _ h2,h3⟩⟩
def HT2 (P:Program):CF:=⟨fun f args K=>HT P f args K,fun f args K=>HTM P f args K⟩
theorem HTM.deep {P:Program} {f:FuncId} {args:List HV} {K:HV->Prop} (h:HTM P f args K):HTM P f args fun r=>K r/\r.deep=[] :=
 ⟨h.1,fun w rargs F fa h1 h2 h3 h4=>(h.2 w rargs F fa h1 h2 h3 h4).mono fun e w' ⟨rv,res,outs,fs,a,b,c,d⟩=>⟨rv,res,outs,fs,a,⟨b,by
  have:=c.inn (p:=fun _=>False) (fun _ _ _ h=>h.elim)
  simp only [aV] at this
  exact List.eq_nil_iff_forall_not_mem.2 fun x hx=>this.1 x hx⟩,c,d⟩⟩
section
variable {P:Program} {E:Fr} {N:Nat} {S M:Lk} {loc:Nat->Value} {fp:Nat->List Nat} {a:Act} {w:World} {D:DS} {nx i:Nat}
theorem Rf {g:Nat->Nat} (hg:∀x,g (g x)=x) (hN:∀x,x<N->g x<N) {o:aB} {us0 uF:List Upd} {v:HV} (hr:Rel E N (fun t=>if o.dst=some t then v else qB S (us0++uF) t) (Lk.upd M (us0++uF)) loc fp a w)
  (hS:∀t,(S t).inn fun x=>g x=x) (hM:∀k,g k≠k->M k=.dead) (hu:∀x∈ig us0,g x=x) (hF:∀u∈uF,∃id t,u=.put id t) :
  ∃N' loc' fp',Rel E N' (jZ o (v.rn g,us0++uF.map (BF g)) S) (pV (v.rn g,us0++uF.map (BF g)) M) loc' fp' a w:=by
 have h:=hr.rename g hg hN
 refine ⟨N,fun k=>loc (g k),fun k=>fp (g k),?_⟩
 have e1:(fun t=>(if o.dst=some t then v else qB S (us0++uF) t).rn g)=jZ o (v.rn g,us0++uF.map (BF g)) S:=by
  funext t
  unfold jZ
  have hF':∀u∈uF.map (BF g),∃id t,u=.put id t:=fun u hu=>by
   obtain ⟨u',h1,rfl⟩:=List.mem_map.1 hu
   obtain ⟨id,t,rfl⟩:=hF u' h1
   exact ⟨_,_,rfl⟩
  by_cases hd:o.dst=some t
  ·simp only [hd,if_true]
  ·simp only [hd,if_false]
   rw [gI,gI,jG hF,jG hF']
   exact HV.rn_id g _ (FZ hS t)
 have e2:(fun k=>Lk.upd M (us0++uF) (g k))=pV (v.rn g,us0++uF.map (BF g)) M:=by
  funext k
  unfold pV
  rw [fQ,fQ]
  exact Ue hg uF _ _ (fun k=>Pv hg hu hM k) k
 rw [<- e1,<- e2]
 exact h
theorem zu {ops:Array Oper} {o:Oper} (ho:ops[i]?=some o) {X:Nat->Prop} (hr:Rel E N S M loc fp a w) (hI:Inv nx X S M) (hX:¬ X i) (hl:lL (bn P E.ok o)=true)
  (hs:fO (HT2 P) D (ops.toList.map (bn P E.ok)) (nx+stride*i) (bn P E.ok o) S M) {Kw:Act->World->Prop} {Q:Exit->Act->World->Prop}
  (hn:∀e a' w',iy D (ops.toList.map (bn P E.ok)) (nx+stride*i) (bn P E.ok o) S M e->(∃N' loc' fp',Rel E N' (jZ (bn P E.ok o) e S) (pV e M) loc' fp' a' w')->Kw a' w'):wpOp P ops Q i Kw a w:=by
 have hgd:(bn P E.ok o).guard=o.guard:=rfl
 have hdst:(bn P E.ok o).dst=o.dst:=rfl
 have bool:∀ {d:Nat} {b:Bool},S d=.bool b->a.tmps[d]?=some (.bool b):=fun {d b} hb=>by
  have h1:=hr.slots d
  rw [hb] at h1
  have h3:=of_bool h1
  cases h4:a.tmps[d]? with
  | none=>rw [Array.getD_eq_getD_getElem?,h4] at h3;simp [undef] at h3
  | some v=>rw [Array.getD_eq_getD_getElem?,h4] at h3;simpa using h3
 have hw:∀b,gd (ops.toList.map (bn P E.ok)) (bn P E.ok o) S=some b->Region.wanted o (yielded ops a.tmps)=b:=by
  intro b hb
  unfold gd at hb
  rw [hgd] at hb
  unfold Region.wanted
  cases hg:o.guard with
  | none=>rw [hg] at hb;simpa using hb
  | some jw =>
   obtain ⟨j,want⟩:=jw
   rw [hg] at hb
   simp only [List.getElem?_map,Option.bind_map] at hb
   have hall:((ops.toList[j]?).bind ((fun x=>x.dst) ∘ bn P E.ok))=((ops[j]?).bind (·.dst)):=by rw [Array.getElem?_toList];rfl
   rw [hall] at hb
   cases hd:(ops[j]?).bind (·.dst) with
   | none=>rw [hd] at hb;simp at hb
   | some d =>
    rw [hd] at hb
    simp only [Option.map_some] at hb
    generalize hv:S d=v at hb
    cases v with
    | bool c =>
     simp only at hb
     have hy:yielded ops a.tmps j=some c:=by
      unfold yielded
      rw [hd]
      simp only [Option.bind_some,bool hv]
     simp only [hy]
     cases c<;>cases want<;>cases b<;>simp_all
    | tup cs =>
     cases cs with
     | cons _ _=>simp at hb
     | nil =>
      simp only [Option.some.injEq] at hb
      subst hb
      have hy:yielded ops a.tmps j=none:=by
       have h1:=hr.slots d
       rw [hv] at h1
       have h3:=BG h1
       unfold yielded
       rw [hd]
       simp only [Option.bind_some]
       cases h4:a.tmps[d]? with
       | none=>rfl
       | some v=>rw [Array.getD_eq_getD_getElem?,h4] at h3;simp at h3;rw [h3];rfl
      simp [hy]
    | _=>simp at hb
 unfold fO at hs
 unfold wpOp
 rw [ho]
 simp only
 cases hgv:gd (ops.toList.map (bn P E.ok)) (bn P E.ok o) S with
 | none=>rw [hgv] at hs;exact hs.elim
 | some b =>
  rw [hgv] at hs
  rw [hw b hgv]
  cases b with
  | false =>
   simp only [Bool.false_eq_true,if_false]
   exact hn (.tup [],[]) _ _ (by unfold iy;rw [hgv]) ⟨N,loc,fp,hr.putU o.dst⟩
  | true =>
   simp only [if_true]
   simp only at hs
   left
   let N0:=max N (nx+stride*(i+1))
   let f:=nx+stride*i
   have hf0:f+stride<=N0:=by simp only [f,N0,stride];omega
   have hNN:N<=N0:=by simp only [N0];omega
   let g:=N7 N0 f stride
   have hg:∀x,g (g x)=x:=OY hf0
   have hgN:∀x,x<N0+stride->g x<N0+stride:=Sj hf0
   have gid:∀x,x<N0->¬ uA nx i x->g x=x:=fun x h1 h2=>by
    simp only [g,N7]
    rw [if_neg (by omega),if_neg (fun h=>h2 ⟨h.1,by simp only [f,stride] at *;omega⟩)]
   have hS:∀t,(S t).inn fun x=>g x=x:=fun t x hx=>by
    have h1:=(hr.slots t).inn (p:=fun x=>x<N) (fun v rv id h hid=>by cases v<;>simp only [fE,Option.some.injEq,reduceCtorEq] at hid<;>subst hid<;>exact h.1)
    simp only [aV] at h1
    exact gid x (Nat.lt_of_lt_of_le (h1.1 x hx) hNN) fun hr'=>hX (nJ (hI.slots t x hx) hr')
   have hM:∀k,g k≠k->M k=.dead:=fun k hk=>by
    rcases Nat.lt_or_ge k N with h|h
    ·by_cases h2:uA nx i k
     ·cases hd:M k with
      | dead=>rfl
      | _=>exact absurd (nJ (hI.alive k (by rw [hd];simp)) h2) hX
     ·exact absurd (gid k (by omega) h2) hk
    ·exact hr.new k h
   have hMi:∀id,(M id).inn fun x=>g x=x:=fun id=>by
    by_cases h:M id=.dead
    ·rw [h];simp
    ·have:=(hr.tree id h).inn (p:=fun x=>g x=x) (fun _ _ _ h=>h.elim)
     simpa using this
   have hvals:innL (fun x=>g x=x) ((bn P E.ok o).op.map (dA S)).vals:=by
    rw [HOp.vals_map]
    intro v hv
    obtain ⟨x,hx,rfl⟩:=List.mem_map.1 hv
    cases x with
    | t i=>exact hS i
    | c v =>
     simp only [lL,Bool.and_eq_true,List.all_eq_true] at hl
     have:=hl.2 _ hx
     simp only [List.isEmpty_iff] at this
     intro y hy
     simp only [dA,this] at hy
     cases hy
   have hlits:innL (fun x=>g x=x) ((bn P E.ok o).op.map (dA S)).lits:=by
    rw [HOp.lits_map,innL_iff]
    simp only [lL,Bool.and_eq_true,List.isEmpty_iff] at hl
    rw [hl.1]
    simp
   have hres:∀e,ku D M f e ((bn P E.ok o).op.map (dA S))->iy D (ops.toList.map (bn P E.ok)) f (bn P E.ok o) S M e:=fun e h=>by unfold iy;rw [hgv];exact h
   by_cases hd:(o.dst.all fun d=>E.ok d)=true
   case neg =>
    have hop0:(bn P E.ok o).op=.bad:=by simp only [bn,hd];rfl
    rw [hop0] at hs
    exact hs.elim
   have hop0:(bn P E.ok o).op=aZ P o:=by simp only [bn,hd,if_true]
   have hdt:∀t,o.dst=some t->E.ok t=true:=fun t ht=>by simpa [ht] using hd
   rw [hop0] at hs hvals hlits hres
   have done:∀ {us0 uF:List Upd} {v:HV} {rv:Value} {w':World} {N1:Nat},N1<=N0+stride->After E N1 S M (us0++uF) v rv a w'->(∀x∈ig us0,g x=x)->(∀u∈uF,∃id t,u=.put id t)->ku D M f (v.rn g,us0++uF.map (BF g)) ((aZ P o).map (dA S))->Kw (a.put o.dst rv) w':=by
    intro us0 uF v rv w' N1 hN1 hA h1 h2 h3
    obtain ⟨loc',fp',h4,h5⟩:=hA
    have h6:=(h4.put o.dst hdt h5).up hN1
    exact hn _ _ _ (hres _ h3) (Rf (o:=bn P E.ok o) hg hgN h6 hS hM h1 h2)
   have plain:(aZ P o).isCall=false->(az M f ((aZ P o).map (dA S))).2.2->(∀e,ku D M f e ((aZ P o).map (dA S)) <-> e=((az M f ((aZ P o).map (dA S))).1,(az M f ((aZ P o).map (dA S))).2.1))->o.wp P a w Kw Q:=by
    intro hnc hvc hce
    obtain ⟨us0,a1,a2,a3,a4⟩:=xC (L:=M) (D:=bg ((aZ P o).map (dA S)).vals) hvals (fun x hx=>hx) hlits hMi
    have ht:∀x∈ig us0,g x=x:=by
     intro x hx
     clear a2 a3 a4
     induction us0 with
     | nil=>cases hx
     | cons u us ih =>
      have ih:=ih (fun u hu=>a1 u (by simp [hu]))
      cases u with
      | put id t =>
       simp only [ig,List.mem_cons] at hx
       rcases hx with rfl|hx
       ·exact innL_iff.1 hvals _ (a1 (.put x t) (by simp)).1
       ·exact ih hx
      | kill=>exact ih hx
    have key:∃v uF,(az M N0 ((aZ P o).map (dA S))).1=v/\(az M N0 ((aZ P o).map (dA S))).2.1=us0++uF/\(az M N0 ((aZ P o).map (dA S))).2.2/\(∀u∈uF,∃id t,u=.put id t)/\ku D M f (v.rn g,us0++uF.map (BF g)) ((aZ P o).map (dA S)):=by
     have gN:g N0=f:=by simp only [g,N7,stride];rw [if_pos (by omega)];omega
     rcases a4 with ⟨v,q,h1,h2⟩|⟨mk,T,q,h0,h1,h2⟩
     ·rw [h2] at hvc
      refine ⟨v,[],by rw [h2],by rw [h2];simp,by rw [h2];exact hvc,by simp,(hce _).2 ?_⟩
      rw [h2,HV.rn_id g v h1];simp
     ·rw [h2] at hvc
      refine ⟨mk N0,[.put N0 T],by rw [h2],by rw [h2],by rw [h2];exact hvc,by simp,(hce _).2 ?_⟩
      rw [h2]
      rcases h0 with ⟨sz,n,rfl⟩|rfl|rfl
      ·simp [HV.rn,BF,gN]
      ·simp [HV.rn,BF,gN]
      ·simp [HV.rn,BF,gN]
    obtain ⟨v,uF,k1,k2,k3,k4,k5⟩:=key
    obtain ⟨rv,w',h1,h2⟩:=DU hr hNN o hnc k3
    rw [k1,k2] at h2
    have:=done (by unfold stride;omega) h2 ht k4 k5
    unfold Oper.wp
    rcases h1 with h1|⟨h1,rfl⟩
    ·rw [h1];exact this
    ·rw [h1];exact this
   have callgen:∀ (fn:FuncId) (vs:List HV) (rvs:List Value),(execOp a.eval o).run P w=(callFunc fn rvs.toArray).run P w->OW (fA E fp w) w.heap (RefR N M loc w.heap) vs rvs [] ->
     (HT P fn (cZ bV M vs) (D.rel fn (cZ bV M vs))/\∀r,D.rel fn (cZ bV M vs) r->r.deep=[]->(aX vs || r.noRd)=true/\(unpack f r).2.2<=f+stride) ->
     (∀r,D.rel fn (cZ bV M vs) r->r.deep=[]->ku D M f ((unpack f r).1,(unpack f r).2.1) ((aZ P o).map (dA S)))->o.wp P a w Kw Q:=by
    intro fn vs rvs hrun hv hC hce
    unfold Oper.wp
    rw [hrun,lY hC.1.1,Oper.upon_enter]
    have hC':=(hC.1.deep).imp (K':=fun r=>(aX vs || r.noRd)=true/\(D.rel fn (cZ bV M vs) r/\r.deep=[])) fun r hr'=>⟨(hC.2 r hr'.1 hr'.2).1,hr'⟩
    refine (xI hr hNN hv hC').mono ?_
    rintro e w' ⟨rv,res,rfl,⟨hK,hdp⟩,_,hA⟩
    obtain ⟨u1,u2,u3,u4,u5⟩:=oP g res N0 f hdp
    have hb:=(hC.2 res hK hdp).2
    obtain ⟨e1,e2⟩:=u3 fun k h1 h2=>by simp only [g,N7];rw [if_pos (by omega)]
    refine done (us0:=[]) (by omega) hA (by simp [ig]) (fun u hu=>by obtain ⟨id,t,rfl,_⟩:=u5 u hu;exact ⟨_,_,rfl⟩) ?_
    have:=hce res hK hdp
    rw [e1,e2] at this
    exact this
   cases hop':aZ P o with
   | call fn xs =>
    rw [hop'] at hs
    simp only [HOp.map] at hs
    obtain ⟨c,hc,hcal,rfl⟩:=uY hop'
    have e1:(#[]:Array Value)++c.args.map a.eval++#[]=(c.args.toList.map a.eval).toArray:=by apply Array.ext';simp
    have e2:a.eval (.func fn)=.func (.func fn) #[] #[]:=rfl
    have hrun:(execOp a.eval o).run P w=(callFunc fn (c.args.toList.map a.eval).toArray).run P w:=by
     simp only [execOp,hc,resolve,hcal,e2,Deferred.ofValue,Sem.run_bind,Sem.run_pure,Result.andThen_ok,invoke,e1]
    simp only [jg] at hs
    by_cases hown:D.own fn=true
    ·rw [if_pos hown] at hs
     rw [List.map_map] at hs
     have hs':(aP M (c.args.toList.map fun x=>dA S (eG x))).2.2/\HTM P fn (aP M (c.args.toList.map fun x=>dA S (eG x))).1 (D.rel fn (aP M (c.args.toList.map fun x=>dA S (eG x))).1)/\∀r,D.rel fn (aP M (c.args.toList.map fun x=>dA S (eG x))).1 r->r.deep=[]->(unpack f r).2.2<=f+stride:=hs
     have hvals':innL (fun x=>g x=x) (c.args.toList.map fun x=>dA S (eG x)):=by
      have:=hvals
      rw [hop'] at this
      simp only [HOp.map,HOp.vals,List.map_map] at this
      exact this
     have hce:∀r,D.rel fn (aP M (c.args.toList.map fun x=>dA S (eG x))).1 r->r.deep=[]->ku D M f ((unpack f r).1,(aP M (c.args.toList.map fun x=>dA S (eG x))).2.1++(unpack f r).2.1) ((aZ P o).map (dA S)):=fun r h1 h2=>by
      rw [hop']
      simp only [HOp.map,ku]
      rw [if_pos hown,List.map_map]
      exact ⟨r,h1,h2,rfl⟩
     have hv:=hr.vals c.args.toList
     generalize hvs:(c.args.toList.map fun x=>dA S (eG x))=vs at hs' hvals' hce hv
     obtain ⟨_,a2⟩:=mg (D:=bg vs) M vs hvals' (fun x hx=>hx) hMi
     have ht:∀x∈ig (aP M vs).2.1,g x=x:=by
      intro x hx
      generalize (aP M vs).2.1=us0 at a2 hx
      induction us0 with
      | nil=>cases hx
      | cons u us ih =>
       have ih:=ih (fun u hu=>a2 u (by simp [hu]))
       cases u with
       | put id t =>
        simp only [ig,List.mem_cons] at hx
        rcases hx with rfl|hx
        ·exact innL_iff.1 hvals' _ (a2 (.put x t) (by simp)).1
        ·exact ih hx
       | kill=>exact ih hx
     unfold Oper.wp
     rw [hrun,lY hs'.2.1.1,Oper.upon_enter]
     refine (wz hr hNN hv hs'.1 (io:=[]) (ids:=[]) rfl List.nodup_nil (HTM.deep hs'.2.1)).mono ?_
     rintro e w' ⟨rv,res,outs,rfl,⟨hK,hdp⟩,hlo,_,hA⟩
     obtain rfl:outs=[]:=List.eq_nil_of_length_eq_zero hlo
     simp only [kills,jX,List.map_nil,List.zip_nil_left,List.append_nil] at hA
     obtain ⟨u1,u2,u3,u4,u5⟩:=oP g res N0 f hdp
     have hb:=hs'.2.2 res hK hdp
     obtain ⟨e1,e2⟩:=u3 fun k h1 h2=>by simp only [g,N7];rw [if_pos (by omega)]
     refine done (us0:=(aP M vs).2.1) (by omega) hA ht (fun u hu=>by obtain ⟨id,t,rfl,_⟩:=u5 u hu;exact ⟨_,_,rfl⟩) ?_
     have:=hce res hK hdp
     rw [e1,e2] at this
     exact this
    ·rw [if_neg hown] at hs
     refine callgen fn (c.args.toList.map fun x=>dA S (eG x)) (c.args.toList.map a.eval) hrun (hr.vals _) (by rw [List.map_map] at hs;exact hs) (fun r h1 h2=>?_)
     rw [hop']
     simp only [HOp.map,ku]
     rw [if_neg hown]
     exact ⟨r,by rw [List.map_map];exact h1,h2,rfl⟩
   | callv x xs =>
    rw [hop'] at hs
    simp only [HOp.map] at hs
    obtain ⟨c,t,hc,hcal,rfl,rfl⟩:=sO hop'
    have hval:=hr.val (.tmp t)
    simp only [eG] at hval
    rw [hop'] at callgen
    simp only [HOp.map] at callgen
    generalize dA S (.t t)=fv at *
    cases fv<;>simp only [jg,az] at hs<;>(first|exact hs.elim|skip)
    rename_i fn cap
    obtain ⟨rcap,hfe,hcap⟩:=BO hval
    have hv:=(hr.vals c.args.toList).append hcap
    simp only [List.append_nil] at hv
    refine callgen fn (c.args.toList.map (fun x=>dA S (eG x))++cap) (c.args.toList.map a.eval++rcap) ?_ hv (by rw [List.map_map] at hs;exact hs) (fun r h1 h2=>?_)
    ·have e1:(#[]:Array Value)++c.args.map a.eval++rcap.toArray=(c.args.toList.map a.eval++rcap).toArray:=by apply Array.ext';simp
     simp only [execOp,hc,resolve,hcal,hfe,Deferred.ofValue,Sem.run_bind,Sem.run_pure,Result.andThen_ok,invoke,e1]
    ·exact ⟨r,by rw [List.map_map];exact h1,h2,rfl⟩
   | _ =>
    rw [hop'] at hs
    rw [hop'] at plain
    exact plain rfl hs (fun e=>Iff.rfl)
end
end Go.HL
end
section
namespace Go.HL
open Go.RowKit
def sF (ms:List Nat):List Edge->Nat
 | []=>0
 | e::r=>(if Region.binds .any e then 2 ^ e.on ||| ms.getD e.on 0 else 0) ||| sF ms r
def l9:List Oper->List Nat->List Nat
 | [],ms=>ms
 | o::r,ms=>l9 r (ms++[sF ms o.after.toList])
def fV (ops:Array Oper):List Nat:=l9 ops.toList []
theorem vO:∀ (r:List Oper) (ms:List Nat),∃t,l9 r ms=ms++t:=by
 intro r
 induction r with
 | nil=>intro ms;exact ⟨[],by simp [l9]⟩
 | cons o r ih =>
  intro ms
  obtain ⟨t,h⟩:=ih (ms++[sF ms o.after.toList])
  exact ⟨sF ms o.after.toList::t,by rw [l9,h];simp⟩
theorem xg:∀ (r:List Oper) (ms:List Nat) (i:Nat) (o:Oper),r[i]?=some o->∃ms',(∃t,l9 r ms=ms'++t)/\ms'.length=ms.length+i/\(l9 r ms).getD (ms.length+i) 0=sF ms' o.after.toList:=by
 intro r
 induction r with
 | nil=>intro ms i o h;simp at h
 | cons q r ih =>
  intro ms i o h
  cases i with
  | zero =>
   simp at h
   subst h
   obtain ⟨t,ht⟩:=vO r (ms++[sF ms q.after.toList])
   refine ⟨ms,vO _ _,rfl,?_⟩
   rw [l9,ht]
   simp [List.getD]
  | succ i =>
   simp only [List.getElem?_cons_succ] at h
   obtain ⟨ms',h1,h2,h3⟩:=ih (ms++[sF ms q.after.toList]) i o h
   refine ⟨ms',h1,by rw [h2];simp;omega,?_⟩
   rw [l9,<- h3]
   congr 1
   simp;omega
theorem zF (ms:List Nat):∀ (l:List Edge) (k:Nat),(sF ms l).testBit k=true <-> ∃e∈l,Region.binds .any e=true/\(e.on=k\/(ms.getD e.on 0).testBit k=true):=by
 intro l
 induction l with
 | nil=>intro k;simp [sF]
 | cons e r ih =>
  intro k
  simp only [sF,Nat.testBit_or,Bool.or_eq_true,ih,List.mem_cons,exists_eq_or_imp]
  cases hb:Region.binds .any e with
  | false=>simp
  | true=>simp [Nat.testBit_or,Nat.testBit_two_pow]
theorem Ej {ops:Array Oper} {i:Nat} {o:Oper} (ho:ops[i]?=some o) {e:Edge} (he:e∈o.after) (hb:Region.binds .any e=true):oQ (fV ops) e.on i=true:=by
 obtain ⟨ms',_,_,h⟩:=xg ops.toList [] i o (by simpa using ho)
 unfold oQ fV
 simp only [List.length_nil,Nat.zero_add] at h
 rw [h,zF]
 exact ⟨e,by simpa using he,hb,.inl rfl⟩
theorem kE {ops:Array Oper} {i k:Nat} {o:Oper} (ho:ops[i]?=some o) (h:oQ (fV ops) k i=true):∃e∈o.after,Region.binds .any e=true/\(e.on=k\/oQ (fV ops) k e.on=true):=by
 obtain ⟨ms',⟨t,h1⟩,h2,h3⟩:=xg ops.toList [] i o (by simpa using ho)
 unfold oQ fV at *
 simp only [List.length_nil,Nat.zero_add] at h3 h2
 rw [h3,zF] at h
 obtain ⟨e,he,hb,h⟩:=h
 refine ⟨e,by simpa using he,hb,h.imp id fun h=>?_⟩
 rw [h1]
 have:(ms'.getD e.on 0)=((ms'++t).getD e.on 0):=by
  rcases Nat.lt_or_ge e.on ms'.length with hl|hl
  ·simp [List.getD,List.getElem?_append_left hl]
  ·simp [List.getD,List.getElem?_eq_none hl] at h
 rw [<- this];exact h
section
variable {E:Fr} {N:Nat} {S M:Lk} {loc:Nat->Value} {fp:Nat->List Nat} {a:Act} {w:World}
theorem OW.lower {F:Nat->Prop} {h:Hp} {R R':HV->Value->Prop} {vs rvs fs} (o:OW F h R vs rvs fs) {p:Nat->Prop} (hfs:fs=[]) (hp:innL p vs) (hl:∀v rv,R v rv->∃id,fE v=some id) (hr:∀v rv id,R v rv->fE v=some id->p id->R' v rv):OW F h R' vs rvs []:=by
 induction o with
 | nil=>exact .nil
 | @leaf R v rv r rr fs a b c d e f gg _ ih =>
  simp only [aV] at hp
  have ih':=ih hfs hp.2 hl hr
  obtain ⟨id,hid⟩:=hl _ _ gg
  have:(fE v).isSome=true:=by rw [hid];rfl
  refine (dL this (hr _ _ id gg hid ?_)).cons1 ih'
  have:=hp.1
  cases v<;>simp [fE] at hid<;>subst hid<;>simpa using this
 | int _ ih=>simp only [aV] at hp;exact .int (ih hfs hp.2 hl hr)
 | bool _ ih=>simp only [aV] at hp;exact .bool (ih hfs hp.2 hl hr)
 | str _ ih=>simp only [aV] at hp;exact .str (ih hfs hp.2 hl hr)
 | nils _ ih=>simp only [aV] at hp;exact .nils (ih hfs hp.2 hl hr)
 | nilp _ ih=>simp only [aV] at hp;exact .nilp (ih hfs hp.2 hl hr)
 | nilf _ ih=>simp only [aV] at hp;exact .nilf (ih hfs hp.2 hl hr)
 | dead _ ih=>simp only [aV] at hp;exact .dead (ih hfs hp.2 hl hr)
 | sl0 _ ih=>simp only [aV] at hp;exact .sl0 (ih hfs hp.2 hl hr)
 | sl a b c d e _ _ ih=>simp only [aV] at hp;exact .sl a b c d e (ih hfs hp.2 hl hr)
 | osl0 _ ih=>simp only [aV] at hp;exact .osl0 (ih hfs hp.2 hl hr)
 | osl=>simp at hfs
 | ptr a b c d _ _ ih=>simp only [aV] at hp;exact .ptr a b c d (ih hfs hp.2 hl hr)
 | optr=>simp at hfs
 | nilm _ ih=>simp only [aV] at hp;exact .nilm (ih hfs hp.2 hl hr)
 | rmap a b c d _ _ ih=>simp only [aV] at hp;exact .rmap a b c d (ih hfs hp.2 hl hr)
 | omap=>simp at hfs
 | oitr=>simp at hfs
 | agg _ _ ih1 ih2 =>
  simp only [aV,nK] at hp
  obtain ⟨rfl,rfl⟩:_=[]/\_=[]:=by simpa using hfs
  exact .agg (ih1 rfl hp.1 hl hr) (ih2 rfl hp.2 hl hr)
 | tup _ _ ih1 ih2 =>
  simp only [aV,rM] at hp
  obtain ⟨rfl,rfl⟩:_=[]/\_=[]:=by simpa using hfs
  exact .tup (ih1 rfl hp.1 hl hr) (ih2 rfl hp.2 hl hr)
 | fn _ _ ih1 ih2 =>
  simp only [aV,vH] at hp
  obtain ⟨rfl,rfl⟩:_=[]/\_=[]:=by simpa using hfs
  exact .fn (ih1 rfl hp.1 hl hr) (ih2 rfl hp.2 hl hr)
theorem Rel.lower (hr:Rel E N S M loc fp a w) {N':Nat} (hS:∀t,(S t).inn (·<N')) (hM:∀id,M id≠.dead->id<N'):Rel E N' S M loc fp a w :=
 ⟨hr.below,hr.base,hr.size,hr.tree,hr.gone,fun id h=>by
  cases hd:M id with
  | dead=>rfl
  | _=>have:=hM id (by rw [hd];simp);omega,hr.nodup,hr.apart,hr.fresh,fun t=>(hr.slots t).lower (p:=(·<N')) rfl (by simpa using hS t) (fun v rv h=>by obtain ⟨id,h1,_⟩:=h.isRef;exact ⟨id,h1⟩) (fun v rv id h hid hp=>by
   cases v<;>simp only [fE,Option.some.injEq,reduceCtorEq] at hid<;>subst hid
   ·exact ⟨hp,h.2⟩
   ·exact ⟨hp,h.2⟩
   ·exact ⟨hp,h.2⟩),hr.defers⟩
theorem Rel.drew (hr:Rel E N S M loc fp a w) (n:Nat):Rel E N S M loc fp a { w with drawn:=n }:=by
 have hb:=hr.below
 exact ⟨⟨hb.os,hb.tape,hb.output,hb.size,hb.block⟩,hr.base,hr.size,hr.tree,hr.gone,hr.new,hr.nodup,hr.apart,hr.fresh,hr.slots,hr.defers⟩
theorem Rel.inv (hr:Rel E N S M loc fp a w):Inv N (fun _=>False) S M:=by
 refine ⟨fun t x hx=>.inl ?_,fun id x hx=>?_,fun id hid=>.inl ?_⟩
 ·have h1:=(hr.slots t).inn (p:=fun x=>x<N) (fun v rv id h hid=>by cases v<;>simp only [fE,Option.some.injEq,reduceCtorEq] at hid<;>subst hid<;>exact h.1)
  simp only [aV] at h1
  exact h1.1 x hx
 ·by_cases h:M id=.dead
  ·rw [h] at hx;cases hx
  ·have:=(hr.tree id h).inn (p:=fun _=>False) (fun _ _ _ h=>h.elim)
   simp only [aV] at this
   exact (this.1 x hx).elim
 ·rcases Nat.lt_or_ge id N with h|h
  ·exact h
  ·exact absurd (hr.new id h) hid
end
section
variable {P:Program} {E:Fr} {ops:Array Oper} {D:DS} {nx:Nat} {K:Lk->Lk->Prop} {Q:Exit->Act->World->Prop}
theorem jY {masks:List Nat} {all:List aB} (h:mD masks all=true) {i:Nat} {o:aB} (ho:all[i]?=some o):masks.getD i 0<2 ^ i/\lL o=true/\∀k,k<i->∀q,all[k]?=some q->oQ masks k i=false->xB all q o=true:=by
 have hlt:=(List.getElem?_eq_some_iff.1 ho).1
 simp only [mD,List.all_eq_true,List.mem_range] at h
 have:=h i hlt
 rw [ho] at this
 simp only [J4,Bool.and_eq_true,decide_eq_true_eq,List.all_eq_true,List.mem_range,Bool.or_eq_true] at this
 refine ⟨this.1.1,this.1.2,fun k hk q hq hb=>?_⟩
 rcases this.2 k hk with h|h
 ·rw [hb] at h;cases h
 ·rw [hq] at h;exact h
theorem Jl {all:List aB} (hall:all=ops.toList.map (bn P E.ok)) (hst:mD (fV ops) all=true) (hQ:∀X S M N loc fp a w,Inv nx X S M->(∀k,X k->k<ops.size)->Rel E N S M loc fp a w->K S M->Q .normal a w) :
  ∀ (fuel:Nat) (listed:Array Bool) (rem:List Nat) (log:jL) (S M:Lk) (N:Nat) (loc:Nat->Value) (fp:Nat->List Nat) (a:Act) (w:World),listed.size=ops.size->rem=(List.range ops.size).filter (fun i=>listed.getD i true==false)->rem.length<=fuel ->
   (∀i o,ops[i]?=some o->listed.getD i false=true->∀e∈o.after,Region.binds .any e=true->listed.getD e.on false=true) ->
   dr (HT2 P) D all (fV ops) nx K rem log S M->Inv nx (fun k=>listed.getD k false=true) S M->Rel E N S M loc fp a w->wpAny P .any ops Q fuel listed a w:=by
 have atH:∀i o,ops[i]?=some o->all[i]?=some (bn P E.ok o):=fun i o h=>by rw [hall,List.getElem?_map,Array.getElem?_toList,h];rfl
 intro fuel
 induction fuel with
 | zero =>
  intro listed rem log S M N loc fp a w hsz hrem hfu hcl hdr hI hr
  have hnil:rem=[]:=List.eq_nil_of_length_eq_zero (by omega)
  subst hnil
  refine ⟨?_,hQ _ S M N loc fp a w hI (fun k hk=>?_) hr hdr⟩
  ·refine List.eq_nil_iff_forall_not_mem.2 fun i hi=>?_
   obtain ⟨h1,o,ho,_⟩:=mem_ready.1 hi
   have:i∈(List.range ops.size).filter (fun i=>listed.getD i true==false):=by
    rw [List.mem_filter,List.mem_range]
    exact ⟨(Array.getElem?_eq_some_iff.1 ho).1,by simpa using h1⟩
   rw [<- hrem] at this;cases this
  ·rcases Nat.lt_or_ge k listed.size with h|h
   ·omega
   ·simp [Array.getElem?_eq_none h] at hk
 | succ fuel ih =>
  intro listed rem log S M N loc fp a w hsz hrem hfu hcl hdr hI hr
  have mem:∀i,i∈rem <-> i<ops.size/\listed.getD i true=false:=fun i=>by rw [hrem,List.mem_filter,List.mem_range];simp
  have sorted:rem.Pairwise (·<·):=by rw [hrem];exact List.pairwise_lt_range.filter _
  have lst:∀i,i<ops.size->listed.getD i true≠false->listed.getD i false=true:=fun i hi h=>by
   have hi':i<listed.size:=by omega
   simp only [Array.getD_eq_getD_getElem?,Array.getElem?_eq_getElem hi',Option.getD_some] at h ⊢
   simpa using h
  have lst':∀i,listed.getD i false=true->listed.getD i true≠false:=fun i h=>by
   have hi':i<listed.size:=by
    rcases Nat.lt_or_ge i listed.size with h'|h'
    ·exact h'
    ·simp [Array.getElem?_eq_none h'] at h
   simp only [Array.getD_eq_getD_getElem?,Array.getElem?_eq_getElem hi',Option.getD_some] at h ⊢
   simp [h]
  have opAt:∀i,i<ops.size->∃o,ops[i]?=some o:=fun i hi=>⟨ops[i],Array.getElem?_eq_getElem hi⟩
  have onlt:∀i o e,ops[i]?=some o->e∈o.after->Region.binds .any e=true->e.on<i:=fun i o e ho he hb=>by
   have h1:=(jY hst (atH i o ho)).1
   have h2:=Ej ho he hb
   unfold oQ at h2
   rcases Nat.lt_or_ge e.on i with h|h
   ·exact h
   ·rw [Nat.testBit_lt_two_pow (Nat.lt_of_lt_of_le h1 (Nat.pow_le_pow_right (by omega) h))] at h2;cases h2
  have closed:∀i,∀k,oQ (fV ops) k i=true->i<ops.size->listed.getD i false=true->listed.getD k false=true:=by
   intro i
   induction i using Nat.strongRecOn with
   | _ i ihi =>
    intro k hk hi hl
    obtain ⟨o,ho⟩:=opAt i hi
    obtain ⟨e,he,hb,h⟩:=kE ho hk
    have hle:=hcl i o ho hl e he hb
    rcases h with rfl|h
    ·exact hle
    ·have:=onlt i o e ho he hb
     exact ihi e.on this k h (by omega) hle
  refine ⟨fun h0=>?_,fun i hi=>?_⟩
  ·cases hrm:rem with
   | nil =>
    rw [hrm] at hdr
    refine hQ _ S M N loc fp a w hI (fun k hk=>?_) hr hdr
    rcases Nat.lt_or_ge k listed.size with h|h
    ·omega
    ·simp [Array.getElem?_eq_none h] at hk
   | cons i r =>
    exfalso
    have him:i∈rem:=by rw [hrm];simp
    obtain ⟨hi,hun⟩:=(mem i).1 him
    obtain ⟨o,ho⟩:=opAt i hi
    have:i∈Region.ready .any ops listed:=mem_ready.2 ⟨hun,o,ho,fun e he hb=>by
     have h1:=onlt i o e ho he hb
     by_cases h2:listed.getD e.on true=false
     ·have h3:e.on∈rem:=(mem e.on).2 ⟨by omega,h2⟩
      rw [hrm] at h3 sorted
      rcases List.mem_cons.1 h3 with h4|h4
      ·omega
      ·have:=(List.pairwise_cons.1 sorted).1 e.on h4;omega
     ·exact lst e.on (by omega) h2⟩
    rw [h0] at this;cases this
  ·obtain ⟨hun,o,ho,haft⟩:=mem_ready.1 hi
   have hio:i<ops.size:=(Array.getElem?_eq_some_iff.1 ho).1
   have him:i∈rem:=(mem i).2 ⟨hio,hun⟩
   obtain ⟨l1,l2,hsplit⟩:=List.append_of_mem him
   have hnd:rem.Nodup:=sorted.imp fun h=>Nat.ne_of_lt h
   obtain ⟨hlt,hlit,hpair⟩:=jY hst (atH i o ho)
   have hXi:¬ listed.getD i false=true:=fun h=>lst' i h hun
   rw [hsplit] at hdr sorted hnd
   have hfr:=BP (atH i o ho) hlit l1 l2 _ log S M hI hXi (fun k hk=>by
    have hkm:k∈rem:=by rw [hsplit];simp [hk]
    obtain ⟨hk1,hk2⟩:=(mem k).1 hkm
    have hki:k<i:=(List.pairwise_append.1 sorted).2.2 k hk i (by simp)
    obtain ⟨q,hq⟩:=opAt k hk1
    obtain ⟨hlt',hlit',_⟩:=jY hst (atH k q hq)
    have hXk:¬ listed.getD k false=true:=fun h=>lst' k h hk2
    have b1:oQ (fV ops) k i=false:=by
     cases hb:oQ (fV ops) k i with
     | false=>rfl
     | true =>
      exfalso
      obtain ⟨e,he,hbb,h⟩:=kE ho hb
      have hle:=haft e he hbb
      rcases h with rfl|h
      ·exact hXk hle
      ·have:=onlt i o e ho he hbb
       exact hXk (closed e.on k h (by omega) hle)
    refine ⟨by omega,hXk,_,atH k q hq,hlit',hpair k hki _ (atH k q hq) b1,b1,?_⟩
    unfold oQ
    exact Nat.testBit_lt_two_pow (Nat.lt_of_lt_of_le hlt' (Nat.pow_le_pow_right (by omega) (Nat.le_of_lt hki)))) (List.nodup_append.1 hnd).1 hdr
   obtain ⟨o',ho',hs,_,hnext⟩:=hfr
   rw [atH i o ho] at ho';cases ho'
   subst hall
   refine zu ho hr hI hXi hlit hs fun e a' w' hres ⟨N',loc',fp',hr'⟩=>?_
   obtain ⟨f1,f2,_,_⟩:=nH hI hlit hs hres
   have hI':=hI.step (o:=bn P E.ok o) f1 f2
   have hset:∀k,(listed.setIfInBounds i true).getD k false=true <-> (listed.getD k false=true\/k=i):=fun k=>by
    by_cases hk:k=i
    ·subst hk;simp [hsz,hio]
    ·rw [getD_set_ne false (fun h=>hk h.symm)];simp [hk]
   refine ih (listed.setIfInBounds i true) (l1++l2) _ _ _ N' loc' fp' a' w' (by simpa using hsz) ?_ ?_ ?_ (hnext e hres).2 ⟨fun t=>HV.inn_mono (hI'.slots t) fun x hx=>kC (fun k hk=>(hset k).2 hk) hx,fun id=>HV.inn_mono (hI'.trees id) fun x hx=>kC (fun k hk=>(hset k).2 hk) hx,fun id h=>kC (fun k hk=>(hset k).2 hk) (hI'.alive id h)⟩ hr'
   ·have e1:(List.range ops.size).filter (fun k=>(listed.setIfInBounds i true).getD k true==false)=((List.range ops.size).filter (fun k=>listed.getD k true==false)).filter (fun k=>k != i):=by
     rw [List.filter_filter]
     refine List.filter_congr fun k hk=>?_
     by_cases hki:k=i
     ·subst hki
      have:k<listed.size:=by omega
      simp [this]
     ·rw [getD_set_ne true (fun h=>hki h.symm)];simp [hki]
    rw [e1,<- hrem,hsplit]
    rw [List.nodup_append] at hnd
    obtain ⟨n1,n2,n3⟩:=hnd
    rw [List.nodup_cons] at n2
    rw [List.filter_append,List.filter_cons_of_neg (by simp),List.filter_eq_self.2,List.filter_eq_self.2]
    ·intro k hk;simp;exact fun e=>n2.1 (e▸hk)
    ·intro k hk;simp;exact fun e=>n3 k hk i (by simp) e
   ·rw [hsplit] at hfu;simp at hfu ⊢;omega
   ·intro k q hq hl e' he' hb'
    rcases (hset k).1 hl with h|rfl
    ·exact (hset _).2 (.inl (hcl k q hq h e' he' hb'))
    ·rw [ho] at hq;cases hq
     exact (hset _).2 (.inl (haft e' he' hb'))
theorem Ih {all:List aB} (hall:all=ops.toList.map (bn P E.ok)) (hst:mD (fV ops) all=true) (n:Nat) (hn:n<=ops.size) (hlast:∀i,n<=i->i<ops.size->∀k,k<i->oQ (fV ops) k i=true)
  (hQ:∀fuel (listed:Array Bool) X S M N loc fp a w,ops.size - n<=fuel->listed.size=ops.size->(∀k,k<n->listed.getD k false=true)->(∀k,n<=k->k<ops.size->listed.getD k true=false)->Inv nx X S M->(∀k,X k->k<n)->Rel E N S M loc fp a w->K S M->wpAny P .any ops Q fuel listed a w) :
  ∀ (fuel:Nat) (listed:Array Bool) (rem:List Nat) (log:jL) (S M:Lk) (N:Nat) (loc:Nat->Value) (fp:Nat->List Nat) (a:Act) (w:World),listed.size=ops.size->rem=(List.range n).filter (fun i=>listed.getD i true==false)->(∀k,n<=k->k<ops.size->listed.getD k true=false)->rem.length+(ops.size - n)<=fuel ->
   (∀i o,ops[i]?=some o->listed.getD i false=true->∀e∈o.after,Region.binds .any e=true->listed.getD e.on false=true) ->
   dr (HT2 P) D all (fV ops) nx K rem log S M->Inv nx (fun k=>listed.getD k false=true) S M->Rel E N S M loc fp a w->wpAny P .any ops Q fuel listed a w:=by
 have atH:∀i o,ops[i]?=some o->all[i]?=some (bn P E.ok o):=fun i o h=>by rw [hall,List.getElem?_map,Array.getElem?_toList,h];rfl
 intro fuel
 induction fuel with
 | zero =>
  intro listed rem log S M N loc fp a w hsz hrem hsuf hfu hcl hdr hI hr
  have hnil:rem=[]:=List.eq_nil_of_length_eq_zero (by omega)
  subst hnil
  have hall':∀k,k<n->listed.getD k false=true:=fun k hk=>by
   have hk':k<listed.size:=by omega
   have:¬ k∈(List.range n).filter (fun i=>listed.getD i true==false):=by rw [<- hrem];simp
   rw [List.mem_filter,List.mem_range] at this
   simp only [Array.getD_eq_getD_getElem?,Array.getElem?_eq_getElem hk',Option.getD_some] at this ⊢
   simpa [hk] using this
  refine hQ 0 listed _ S M N loc fp a w (by omega) hsz hall' hsuf hI (fun k hk=>?_) hr hdr
  rcases Nat.lt_or_ge k n with h|h
  ·exact h
  ·exfalso
   have hk':k<listed.size:=by
    rcases Nat.lt_or_ge k listed.size with h'|h'
    ·exact h'
    ·simp [Array.getElem?_eq_none h'] at hk
   have:=hsuf k h (by omega)
   simp only [Array.getD_eq_getD_getElem?,Array.getElem?_eq_getElem hk',Option.getD_some] at this hk
   rw [this] at hk;cases hk
 | succ fuel ih =>
  intro listed rem log S M N loc fp a w hsz hrem hsuf hfu hcl hdr hI hr
  have mem:∀i,i∈rem <-> i<n/\listed.getD i true=false:=fun i=>by rw [hrem,List.mem_filter,List.mem_range];simp
  have sorted:rem.Pairwise (·<·):=by rw [hrem];exact List.pairwise_lt_range.filter _
  have lst:∀i,i<ops.size->listed.getD i true≠false->listed.getD i false=true:=fun i hi h=>by
   have hi':i<listed.size:=by omega
   simp only [Array.getD_eq_getD_getElem?,Array.getElem?_eq_getElem hi',Option.getD_some] at h ⊢
   simpa using h
  have lst':∀i,listed.getD i false=true->listed.getD i true≠false:=fun i h=>by
   have hi':i<listed.size:=by
    rcases Nat.lt_or_ge i listed.size with h'|h'
    ·exact h'
    ·simp [Array.getElem?_eq_none h'] at h
   simp only [Array.getD_eq_getD_getElem?,Array.getElem?_eq_getElem hi',Option.getD_some] at h ⊢
   simp [h]
  have opAt:∀i,i<ops.size->∃o,ops[i]?=some o:=fun i hi=>⟨ops[i],Array.getElem?_eq_getElem hi⟩
  have onlt:∀i o e,ops[i]?=some o->e∈o.after->Region.binds .any e=true->e.on<i:=fun i o e ho he hb=>by
   have h1:=(jY hst (atH i o ho)).1
   have h2:=Ej ho he hb
   unfold oQ at h2
   rcases Nat.lt_or_ge e.on i with h|h
   ·exact h
   ·rw [Nat.testBit_lt_two_pow (Nat.lt_of_lt_of_le h1 (Nat.pow_le_pow_right (by omega) h))] at h2;cases h2
  have closed:∀i,∀k,oQ (fV ops) k i=true->i<ops.size->listed.getD i false=true->listed.getD k false=true:=by
   intro i
   induction i using Nat.strongRecOn with
   | _ i ihi =>
    intro k hk hi hl
    obtain ⟨o,ho⟩:=opAt i hi
    obtain ⟨e,he,hb,h⟩:=kE ho hk
    have hle:=hcl i o ho hl e he hb
    rcases h with rfl|h
    ·exact hle
    ·have:=onlt i o e ho he hb
     exact ihi e.on this k h (by omega) hle
  by_cases hrn:rem=[]
  ·subst hrn
   refine hQ (fuel+1) listed _ S M N loc fp a w (by simpa using hfu) hsz (fun k hk=>?_) hsuf hI (fun k hk=>?_) hr hdr
   ·exact lst k (by omega) fun h=>by have:=(mem k).2 ⟨hk,h⟩;cases this
   ·rcases Nat.lt_or_ge k n with h|h
    ·exact h
    ·exfalso
     have hk':k<listed.size:=by
      rcases Nat.lt_or_ge k listed.size with h'|h'
      ·exact h'
      ·simp [Array.getElem?_eq_none h'] at hk
     exact lst' k hk (hsuf k h (by omega))
  have hin:∀i,i∈Region.ready .any ops listed->i<n:=fun i hi=>by
   obtain ⟨hun,o,ho,haft⟩:=mem_ready.1 hi
   have hio:i<ops.size:=(Array.getElem?_eq_some_iff.1 ho).1
   rcases Nat.lt_or_ge i n with h|h
   ·exact h
   ·exfalso
    obtain ⟨k,hk⟩:=List.exists_mem_of_ne_nil rem hrn
    obtain ⟨hk1,hk2⟩:=(mem k).1 hk
    have hXk:¬ listed.getD k false=true:=fun h=>lst' k h hk2
    obtain ⟨e,he,hbb,h3⟩:=kE ho (hlast i h hio k (by omega))
    have hle:=haft e he hbb
    rcases h3 with rfl|h3
    ·exact hXk hle
    ·have:=onlt i o e ho he hbb
     exact hXk (closed e.on k h3 (by omega) hle)
  refine ⟨fun h0=>?_,fun i hi=>?_⟩
  ·exfalso
   cases hrm:rem with
   | nil=>exact hrn hrm
   | cons i r =>
    have him:i∈rem:=by rw [hrm];simp
    obtain ⟨hi,hun⟩:=(mem i).1 him
    obtain ⟨o,ho⟩:=opAt i (by omega)
    have:i∈Region.ready .any ops listed:=mem_ready.2 ⟨hun,o,ho,fun e he hb=>by
     have h1:=onlt i o e ho he hb
     by_cases h2:listed.getD e.on true=false
     ·have h3:e.on∈rem:=(mem e.on).2 ⟨by omega,h2⟩
      rw [hrm] at h3 sorted
      rcases List.mem_cons.1 h3 with h4|h4
      ·omega
      ·have:=(List.pairwise_cons.1 sorted).1 e.on h4;omega
     ·exact lst e.on (by omega) h2⟩
    rw [h0] at this;cases this
  ·have hin':=hin i hi
   obtain ⟨hun,o,ho,haft⟩:=mem_ready.1 hi
   have hio:i<ops.size:=(Array.getElem?_eq_some_iff.1 ho).1
   have him:i∈rem:=(mem i).2 ⟨hin',hun⟩
   obtain ⟨l1,l2,hsplit⟩:=List.append_of_mem him
   have hnd:rem.Nodup:=sorted.imp fun h=>Nat.ne_of_lt h
   obtain ⟨hlt,hlit,hpair⟩:=jY hst (atH i o ho)
   have hXi:¬ listed.getD i false=true:=fun h=>lst' i h hun
   rw [hsplit] at hdr sorted hnd
   have hfr:=BP (atH i o ho) hlit l1 l2 _ log S M hI hXi (fun k hk=>by
    have hkm:k∈rem:=by rw [hsplit];simp [hk]
    obtain ⟨hk1,hk2⟩:=(mem k).1 hkm
    have hki:k<i:=(List.pairwise_append.1 sorted).2.2 k hk i (by simp)
    obtain ⟨q,hq⟩:=opAt k (by omega)
    obtain ⟨hlt',hlit',_⟩:=jY hst (atH k q hq)
    have hXk:¬ listed.getD k false=true:=fun h=>lst' k h hk2
    have b1:oQ (fV ops) k i=false:=by
     cases hb:oQ (fV ops) k i with
     | false=>rfl
     | true =>
      exfalso
      obtain ⟨e,he,hbb,h⟩:=kE ho hb
      have hle:=haft e he hbb
      rcases h with rfl|h
      ·exact hXk hle
      ·have:=onlt i o e ho he hbb
       exact hXk (closed e.on k h (by omega) hle)
    refine ⟨by omega,hXk,_,atH k q hq,hlit',hpair k hki _ (atH k q hq) b1,b1,?_⟩
    unfold oQ
    exact Nat.testBit_lt_two_pow (Nat.lt_of_lt_of_le hlt' (Nat.pow_le_pow_right (by omega) (Nat.le_of_lt hki)))) (List.nodup_append.1 hnd).1 hdr
   obtain ⟨o',ho',hs,_,hnext⟩:=hfr
   rw [atH i o ho] at ho';cases ho'
   subst hall
   refine zu ho hr hI hXi hlit hs fun e a' w' hres ⟨N',loc',fp',hr'⟩=>?_
   obtain ⟨f1,f2,_,_⟩:=nH hI hlit hs hres
   have hI':=hI.step (o:=bn P E.ok o) f1 f2
   have hset:∀k,(listed.setIfInBounds i true).getD k false=true <-> (listed.getD k false=true\/k=i):=fun k=>by
    by_cases hk:k=i
    ·subst hk;simp [hsz,hio]
    ·rw [getD_set_ne false (fun h=>hk h.symm)];simp [hk]
   refine ih (listed.setIfInBounds i true) (l1++l2) _ _ _ N' loc' fp' a' w' (by simpa using hsz) ?_ ?_ ?_ ?_ (hnext e hres).2 ⟨fun t=>HV.inn_mono (hI'.slots t) fun x hx=>kC (fun k hk=>(hset k).2 hk) hx,fun id=>HV.inn_mono (hI'.trees id) fun x hx=>kC (fun k hk=>(hset k).2 hk) hx,fun id h=>kC (fun k hk=>(hset k).2 hk) (hI'.alive id h)⟩ hr'
   ·have e1:(List.range n).filter (fun k=>(listed.setIfInBounds i true).getD k true==false)=((List.range n).filter (fun k=>listed.getD k true==false)).filter (fun k=>k != i):=by
     rw [List.filter_filter]
     refine List.filter_congr fun k hk=>?_
     rw [List.mem_range] at hk
     by_cases hki:k=i
     ·subst hki
      have:k<listed.size:=by omega
      simp [this]
     ·rw [getD_set_ne true (fun h=>hki h.symm)];simp [hki]
    rw [e1,<- hrem,hsplit]
    rw [List.nodup_append] at hnd
    obtain ⟨n1,n2,n3⟩:=hnd
    rw [List.nodup_cons] at n2
    rw [List.filter_append,List.filter_cons_of_neg (by simp),List.filter_eq_self.2,List.filter_eq_self.2]
    ·intro k hk;simp;exact fun e=>n2.1 (e▸hk)
    ·intro k hk;simp;exact fun e=>n3 k hk i (by simp) e
   ·intro k hk1 hk2
    rw [getD_set_ne true (by omega)];exact hsuf k hk1 hk2
   ·rw [hsplit] at hfu;simp at hfu ⊢;omega
   ·intro k q hq hl e' he' hb'
    rcases (hset k).1 hl with h|rfl
    ·exact (hset _).2 (.inl (hcl k q hq h e' he' hb'))
    ·rw [ho] at hq;cases hq
     exact (hset _).2 (.inl (haft e' he' hb'))
end
end Go.HL
end
