import Derived.Test.YtlbdmpjnmfmnfaaHl2
import Derived.Orders
set_option linter.unusedSimpArgs false
set_option linter.unusedVariables false
section
namespace Go.HL
open Go.RowKit
mutual
def HV.deep:HV->List Nat
 | .ref i _ _ _ _=>[i]
 | .pref i _ _=>[i]
 | .sl _ cs=>bf cs
 | .osl _ _ cs=>bf cs
 | .ptr cs _=>bf cs
 | .optr cs=>bf cs
 | .agg cs=>bf cs
 | .tup cs=>bf cs
 | .fn _ cs=>bf cs
 | .rmap _ _ cs=>bf cs
 | .omap _ _ cs=>bf cs
 | .mref i _=>[i]
 | _=>[]
def bf:List HV->List Nat
 | []=>[]
 | v::r=>v.deep++bf r
end
def HV.inn (p:Nat->Prop) (v:HV):Prop:=∀x∈v.deep,p x
def innL (p:Nat->Prop) (l:List HV):Prop:=∀v∈l,v.inn p
theorem mem_deepL {x:Nat} {l:List HV}:x∈bf l <-> ∃v∈l,x∈v.deep:=by
 induction l with
 | nil=>simp [bf]
 | cons v r ih=>simp [bf,ih]
theorem innL_iff {p:Nat->Prop} {l:List HV}:innL p l <-> ∀x∈bf l,p x:=by
 unfold innL HV.inn
 constructor
 ·intro h x hx
  obtain ⟨v,hv,hx⟩:=mem_deepL.1 hx
  exact h v hv x hx
 ·intro h v hv x hx
  exact h x (mem_deepL.2 ⟨v,hv,hx⟩)
section
variable {p:Nat->Prop}
@[simp] theorem iO {k n}:(HV.int k n).inn p:=by simp [HV.inn,HV.deep]
@[simp] theorem kz {b}:(HV.bool b).inn p:=by simp [HV.inn,HV.deep]
@[simp] theorem LC {b}:(HV.str b).inn p:=by simp [HV.inn,HV.deep]
@[simp] theorem TD:HV.nils.inn p:=by simp [HV.inn,HV.deep]
@[simp] theorem SY:HV.nilp.inn p:=by simp [HV.inn,HV.deep]
@[simp] theorem UW:HV.nilf.inn p:=by simp [HV.inn,HV.deep]
@[simp] theorem bZ:HV.dead.inn p:=by simp [HV.inn,HV.deep]
@[simp] theorem yB {i q sz o n}:(HV.ref i q sz o n).inn p <-> p i:=by simp [HV.inn,HV.deep]
@[simp] theorem sJ {i q o}:(HV.pref i q o).inn p <-> p i:=by simp [HV.inn,HV.deep]
@[simp] theorem IK {n cs}:(HV.sl n cs).inn p <-> innL p cs:=by rw [innL_iff];rfl
@[simp] theorem qc {sz n cs}:(HV.osl sz n cs).inn p <-> innL p cs:=by rw [innL_iff];rfl
@[simp] theorem uS {n cs}:(HV.ptr cs n).inn p <-> innL p cs:=by rw [innL_iff];rfl
@[simp] theorem BO {cs}:(HV.optr cs).inn p <-> innL p cs:=by rw [innL_iff];rfl
@[simp] theorem nJ {cs}:(HV.agg cs).inn p <-> innL p cs:=by rw [innL_iff];rfl
@[simp] theorem qZ {cs}:(HV.tup cs).inn p <-> innL p cs:=by rw [innL_iff];rfl
@[simp] theorem wI {f cs}:(HV.fn f cs).inn p <-> innL p cs:=by rw [innL_iff];rfl
@[simp] theorem Tf:HV.nilm.inn p:=by simp [HV.inn,HV.deep]
@[simp] theorem V6 {b s l c}:(HV.oitr b s l c).inn p:=by simp [HV.inn,HV.deep]
@[simp] theorem rX {i q}:(HV.mref i q).inn p <-> p i:=by simp [HV.inn,HV.deep]
@[simp] theorem vZ {m ks cs}:(HV.rmap m ks cs).inn p <-> innL p cs:=by rw [innL_iff];rfl
@[simp] theorem mG {m ks cs}:(HV.omap m ks cs).inn p <-> innL p cs:=by rw [innL_iff];rfl
@[simp] theorem Bh:innL p []:=by simp [innL]
@[simp] theorem aP {v l}:innL p (v::l) <-> v.inn p/\innL p l:=by simp [innL]
@[simp] theorem uo {l l'}:innL p (l++l') <-> innL p l/\innL p l':=by
 simp only [innL,List.mem_append]
 exact ⟨fun h=>⟨fun v hv=>h v (.inl hv),fun v hv=>h v (.inr hv)⟩,fun h v hv=>hv.elim (h.1 v) (h.2 v)⟩
theorem innL.take {l} (h:innL p l) (n:Nat):innL p (l.take n):=fun v hv=>h v (List.mem_of_mem_take hv)
theorem innL.drop {l} (h:innL p l) (n:Nat):innL p (l.drop n):=fun v hv=>h v (List.mem_of_mem_drop hv)
theorem innL.win {l} (h:innL p l) (a b:Nat):innL p (win l a b):=by
 unfold HL.win;split
 ·exact h
 ·exact (h.drop _).take _
theorem innL.getD {l} (h:innL p l) (n:Nat):(l.getD n .dead).inn p:=by
 rw [List.getD_eq_getElem?_getD]
 cases hn:l[n]? with
 | none=>simp
 | some v=>exact h v (List.mem_of_getElem? hn)
theorem innL.set {l} (h:innL p l) (n:Nat) {v:HV} (hv:v.inn p):innL p (l.set n v):=fun u hu=>by
 rcases List.mem_or_eq_of_mem_set hu with hu|rfl
 ·exact h u hu
 ·exact hv
theorem jE {v:HV} (h:v.inn p) (q:List Nat):(aA v q).inn p:=by
 induction q generalizing v with
 | nil=>simpa [aA] using h
 | cons j q ih =>
  cases v<;>simp only [aA,bZ]
  ·exact ih (innL.getD (by simpa using h) j)
  ·exact ih (innL.getD (by simpa using h) j)
  ·exact ih (innL.getD (by simpa using h) j)
theorem rW {x v:HV} (hx:x.inn p) (h:v.inn p) (q:List Nat):(dB x v q).inn p:=by
 induction q generalizing v with
 | nil=>simpa [dB] using hx
 | cons j q ih =>
  cases v<;>simp only [dB]<;>(first|exact h|skip)
  ·simp only [qc] at h ⊢
   exact h.set j (ih (h.getD j))
  ·simp only [BO] at h ⊢
   exact h.set j (ih (h.getD j))
  ·simp only [mG] at h ⊢
   exact h.set j (ih (h.getD j))
theorem uZ {v:HV} (h:v.inn p):innL p (bg v):=by cases v<;>simp_all [bg]
theorem zy {v:HV} {cs:List HV} (h:v.inn p) (hc:innL p cs):(di cs v).inn p:=by cases v<;>simp_all [di]
theorem o6 {cs l:List HV} (h:innL p cs) (hl:innL p l) (o:Nat):innL p (setFrom cs o l):=by
 induction l generalizing cs o with
 | nil=>simpa [setFrom] using h
 | cons v r ih =>
  simp only [aP] at hl
  exact ih (h.set o hl.1) hl.2 (o+1)
theorem qj {v:HV} (h:v.inn p):innL p (cellsOf v):=by
 unfold cellsOf;split
 ·simpa using h
 ·simpa using h
theorem BH {v:HV} {id j:Nat} {q:List Nat} (hi:p id) (h:v.inn p):(look id q j v).inn p:=by
 unfold look
 split<;>(try split)<;>first|exact bZ|exact h|simpa using hi
theorem BK {zs:List HV} {ps:List (Nat×Nat×HV)} (h:innL p zs) (hp:∀q∈ps,q.2.2.inn p):innL p (jH zs ps).1:=by
 induction ps generalizing zs with
 | nil=>exact h
 | cons q r ih =>
  obtain ⟨o,sz,v⟩:=q
  simp only [jH]
  exact ih (o6 h (qj (hp (o,sz,v) (by simp))) o) fun q hq=>hp q (by simp [hq])
def L8 (p:Nat->Prop):Upd->Prop
 | .put id t=>p id/\t.inn p
 | .kill ..=>True
def gK:List Upd->List Nat
 | []=>[]
 | .put id _::r=>id::gK r
 | .kill ..::r=>gK r
theorem zX (a b:List Upd):gK (a++b)=gK a++gK b:=by
 induction a with
 | nil=>rfl
 | cons u a ih=>cases u<;>simp [gK,ih]
theorem Lu {L:Lk} {us:List Upd} (h:∀id,(L id).inn p) (hu:∀u∈us,L8 p u) (id:Nat):(Lk.upd L us id).inn p:=by
 induction us generalizing L with
 | nil=>exact h id
 | cons u us ih =>
  cases u with
  | put i t =>
   refine ih (L:=fun j=>if j=i then t else L j) (fun j=>?_) fun u hu'=>hu u (by simp [hu'])
   split
   ·exact (hu (.put i t) (by simp)).2
   ·exact h j
  | kill i n=>exact ih h fun u hu'=>hu u (by simp [hu'])
theorem jT {L:Lk} {us:List Upd} {id:Nat} (h:id ∉ gK us):Lk.upd L us id=L id:=by
 induction us generalizing L with
 | nil=>rfl
 | cons u us ih =>
  cases u with
  | put i t =>
   simp only [gK,List.mem_cons,not_or] at h
   simp only [Lk.upd]
   rw [ih h.2,if_neg h.1]
  | kill i n=>exact ih h
theorem tY {L L':Lk} {us:List Upd} {id:Nat} (h:id∈gK us\/L id=L' id):Lk.upd L us id=Lk.upd L' us id:=by
 induction us generalizing L L' with
 | nil=>rcases h with h|h;cases h;exact h
 | cons u us ih =>
  cases u with
  | put i t =>
   simp only [Lk.upd]
   refine ih ?_
   simp only [gK,List.mem_cons] at h
   by_cases hi:id=i
   ·right;simp [hi]
   ·rcases h with (h|h)|h
    ·exact absurd h hi
    ·exact .inl h
    ·right;simp [hi,h]
  | kill i n=>exact ih h
end
def KA (D:List Nat) (p:Nat->Prop):Upd->Prop
 | .put id t=>id∈D/\t.inn p
 | .kill ..=>True
section
variable {p:Nat->Prop} {L L':Lk} {D:List Nat}
theorem BA {v:HV} (hv:v.inn p) (hD:∀x∈v.deep,x∈D) (hL:∀id,(L id).inn p):(takeC L v).1.inn p/\(∀u∈(takeC L v).2.1,KA D p u)/\∀u∈(takeC L v).2.1,∃id t,u=.put id t:=by
 unfold takeC
 split
 ·rename_i id _ off n
  have:=hL id
  split
  ·rename_i sz m cs h
   rw [h] at this
   exact ⟨this,by simp [KA];exact hD id (by simp [HV.deep]),by simp⟩
  ·simp
 ·rename_i id off
  have:=hL id
  split
  ·rename_i cs h
   rw [h] at this
   exact ⟨this,by simp [KA];exact hD id (by simp [HV.deep]),by simp⟩
  ·simp
 ·rename_i id
  have:=hL id
  split
  ·rename_i m ks cs h
   rw [h] at this
   exact ⟨this,by simp [KA];exact hD id (by simp [HV.deep]),by simp⟩
  ·simp
 all_goals first|exact ⟨hv,by simp,by simp⟩|simp
theorem uC {v:HV} (h:∀x∈v.deep,L x=L' x):takeC L v=takeC L' v:=by
 unfold takeC
 split<;>first|rfl|skip
 ·rename_i id _ off n;rw [h id (by simp [HV.deep])]
 ·rename_i id off;rw [h id (by simp [HV.deep])]
 ·rename_i id;rw [h id (by simp [HV.deep])]
theorem uQ (hL:∀id,(L id).inn p) {us:List Upd} (h:∀u∈us,KA D p u) (id:Nat):(Lk.upd L us id).inn p:=by
 induction us generalizing L with
 | nil=>exact hL id
 | cons u us ih =>
  cases u with
  | put i t =>
   refine ih (L:=fun j=>if j=i then t else L j) (fun j=>?_) fun u hu'=>h u (by simp [hu'])
   split
   ·exact (h (.put i t) (by simp)).2
   ·exact hL j
  | kill i n=>exact ih hL fun u hu'=>h u (by simp [hu'])
theorem wo {l:List HV}:∀ {L:Lk},innL p l->(∀x∈bf l,x∈D)->(∀id,(L id).inn p)->innL p (fF L l).1/\(∀u∈(fF L l).2.1,KA D p u)/\∀u∈(fF L l).2.1,∃id t,u=.put id t:=by
 induction l with
 | nil=>intro L h hD hL;simp [fF]
 | cons v r ih =>
  intro L h hD hL
  simp only [aP] at h
  simp only [bf,List.mem_append] at hD
  obtain ⟨a1,a2,a3⟩:=BA (L:=L) h.1 (fun x hx=>hD x (.inl hx)) hL
  obtain ⟨b1,b2,b3⟩:=ih (L:=Lk.upd L (takeC L v).2.1) h.2 (fun x hx=>hD x (.inr hx)) (uQ hL a2)
  simp only [fF,aP,List.mem_append]
  exact ⟨⟨a1,b1⟩,fun u hu=>hu.elim (a2 u) (b2 u),fun u hu=>hu.elim (a3 u) (b3 u)⟩
theorem oN {l:List HV}:∀ {L L':Lk},(∀x∈bf l,L x=L' x)->fF L l=fF L' l:=by
 induction l with
 | nil=>intros;rfl
 | cons v r ih =>
  intro L L' h
  simp only [bf,List.mem_append] at h
  have e1:=uC (L:=L) (L':=L') fun x hx=>h x (.inl hx)
  have e2:=ih (L:=Lk.upd L (takeC L v).2.1) (L':=Lk.upd L' (takeC L v).2.1) fun x hx=>tY (.inr (h x (.inr hx)))
  simp only [fF,<- e1,e2]
end
end Go.HL
end
section
namespace Go.HL
open Go.RowKit
def HOp.vals {α:Type}:HOp α->List α
 | .mv _ x=>[x]|.pick c a b=>[c,a,b]|.bin _ x y=>[x,y]|.beq _ x y=>[x,y]|.aeq _ _ x y=>[x,y]|.un _ x=>[x]|.conv _ x=>[x]
 | .newv _ x=>[x]|.newz _=>[]|.bld _ ps=>ps.map (·.2.2)|.bsl _ _ xs=>xs|.load _ _ x=>[x]|.store _ _ x y=>[x,y]|.nilck x=>[x]
 | .mkfn _ xs=>xs|.mksl _ _ _ l=>[l]|.slc _ x lo hi=>x::(lo.toList++hi.toList)|.faddr _ x=>[x]|.fld _ _ _ x=>[x]|.iaddr _ x i=>[x,i]|.ext x _=>[x]
 | .len x=>[x]|.app _ _ _ s x=>[s,x]|.mm _ x y=>[x,y]|.cpy x y=>[x,y]|.slz _ x=>[x]|.isn _ x=>[x]
 | .mnil _ x=>[x]|.mkmap _=>[]|.mlook _ _ _ x k=>[x,k]|.mset _ x k v=>[x,k,v]|.mlen x=>[x]|.mrng x=>[x]|.mnxt x=>[x]|.ment x=>[x]|.tostr x=>[x]|.call _ xs=>xs|.callv x xs=>x::xs|.bad=>[]
def HOp.lits {α:Type}:HOp α->List HV
 | .newz zs=>zs|.bld zs _=>zs|.mksl _ _ z _=>z|.mlook _ _ z _ _=>[z]|_=>[]
def HOp.wrt {α:Type}:HOp α->Bool
 | .newv ..=>true|.bsl ..=>true|.store ..=>true|.app ..=>true|.cpy ..=>true|.mset ..=>true|_=>false
def HOp.touch {α:Type}:HOp α->Bool
 | .newv ..=>true|.bsl ..=>true|.store ..=>true|.app ..=>true|.cpy ..=>true|.load ..=>true|.mset ..=>true|.mlook ..=>true|.mlen _=>true|.mnil ..=>true|.tostr _=>true|.call ..=>true|.callv ..=>true|_=>false
def HOp.killer {α:Type}:HOp α->Bool
 | .store f ..=>!f|.mset ..=>true|_=>false
theorem HOp.vals_map {α β:Type} (g:α->β) (o:HOp α):(o.map g).vals=o.vals.map g:=by
 cases o<;>simp [HOp.vals,HOp.map]
 rename_i lo hi;cases lo<;>cases hi<;>simp
theorem HOp.lits_map {α β:Type} (g:α->β) (o:HOp α):(o.map g).lits=o.lits:=by cases o<;>rfl
theorem HOp.wrt_map {α β:Type} (g:α->β) (o:HOp α):(o.map g).wrt=o.wrt:=by cases o<;>rfl
theorem HOp.touch_map {α β:Type} (g:α->β) (o:HOp α):(o.map g).touch=o.touch:=by cases o<;>rfl
theorem HOp.killer_map {α β:Type} (g:α->β) (o:HOp α):(o.map g).killer=o.killer:=by cases o<;>rfl
def UA (mk:Nat->HV):Prop:=(∃sz n,mk=fun fr=>.ref fr [] sz 0 n)\/(mk=fun fr=>.pref fr [] 0)\/mk=fun fr=>.mref fr []
section
variable {p:Nat->Prop} {L L':Lk} {D:List Nat}
def Shape (L:Lk) (p:Nat->Prop) (D:List Nat) (op:HOp HV):Prop :=
 ∃us0,(∀u∈us0,KA D p u)/\(op.wrt=false->us0=[])/\(op.killer=false->∀u∈us0,∃id t,u=.put id t) /\
  ((∃v q,v.inn p/\∀fr,ay L fr op=(v,us0,q))\/(∃mk T q,UA mk/\T.inn p/\∀fr,ay L fr op=(mk fr,us0++[.put fr T],q)))
theorem Shape.pure {op:HOp HV} (h:∀fr,ay L fr op=ay L 0 op) (h1:(ay L 0 op).2.1=[]) (h2:(ay L 0 op).1.inn p):Shape L p D op :=
 ⟨[],by simp,fun _=>rfl,by simp,.inl ⟨_,_,h2,fun fr=>by rw [h fr,<- h1]⟩⟩
theorem Shape.dead {op:HOp HV} {q:Prop} (h:∀fr,ay L fr op=(.dead,[],q)):Shape L p D op:=⟨[],by simp,fun _=>rfl,by simp,.inl ⟨_,_,bZ,h⟩⟩
theorem Shape.mk {op:HOp HV} {mk:Nat->HV} {us0:List Upd} {T:HV} {q:Prop} (h:∀fr,ay L fr op=(mk fr,us0++[.put fr T],q)) (hm:UA mk) (hT:T.inn p) (hu:∀u∈us0,KA D p u) (hw:op.wrt=false->us0=[]) (hk:∀u∈us0,∃id t,u=.put id t):Shape L p D op :=
 ⟨us0,hu,hw,fun _=>hk,.inr ⟨mk,T,q,hm,hT,h⟩⟩
theorem EG {op:BinOp} {x y:HV}:(D7 op x y).1.inn p:=by
 unfold D7
 split<;>(try split)<;>first|exact iO|exact kz|exact bZ
theorem FK {l:List HV} (h:innL p l):innL p (l.flatMap cellsOf):=fun v hv=>by
 obtain ⟨u,hu,hv⟩:=List.mem_flatMap.1 hv
 exact qj (h u hu) v hv
theorem lq {v:HV} {x:Nat} (h:x∈bf (cellsOf v)):x∈v.deep:=by
 unfold cellsOf at h
 split at h
 ·exact h
 ·simpa [bf] using h
theorem tX {l:List HV} {x:Nat} (h:x∈bf (l.flatMap cellsOf)):x∈bf l:=by
 rw [mem_deepL] at h ⊢
 obtain ⟨v,hv,hx⟩:=h
 obtain ⟨u,hu,hv⟩:=List.mem_flatMap.1 hv
 exact ⟨u,hu,lq (mem_deepL.2 ⟨v,hv,hx⟩)⟩
theorem E8 {fl:Bool} {sz:Nat} {v:HV} (hv:v.inn p) (hD:∀x∈v.deep,x∈D) (hL:∀id,(L id).inn p):innL p (dQ L fl sz v).2.1/\(∀u∈(dQ L fl sz v).2.2.1,KA D p u)/\∀u∈(dQ L fl sz v).2.2.1,∃id t,u=.put id t:=by
 unfold dQ
 split
 ·simp
 ·exact ⟨by simpa using hv,by simp,by simp⟩
 ·rename_i id q sz' off m
  have:=jE (hL id) q
  split
  ·rename_i cs h
   rw [h] at this
   simp only [qc] at this
   split
   ·exact ⟨this.win _ _,by simp,by simp⟩
   ·exact ⟨this,by simp [KA];exact hD id (by simp [HV.deep]),by simp⟩
  ·simp
 ·simp
theorem wW {fl:Bool} {sz:Nat} {v:HV} (h:∀x∈v.deep,L x=L' x):dQ L fl sz v=dQ L' fl sz v:=by
 unfold dQ
 split<;>first|rfl|skip
 ·rename_i id q sz' off m;rw [h id (by simp [HV.deep])]
theorem lQ {ok b:Bool} {v:HV} (h:v.inn p):(okV ok v b).inn p:=by cases ok<;>simp [okV,h]
theorem xC {cs:List HV}:(strOf cs).1.inn p:=by unfold strOf;split<;>simp
theorem xO {cs:List HV}:(strOf cs).2.1=[]:=by unfold strOf;split<;>rfl
theorem JS {m:MK} {ks cs:List HV} {k v:HV} (h:innL p cs) (hv:v.inn p):(qx m ks cs k v).inn p:=by
 unfold qx
 split
 ·simp only [mG];exact h.set _ hv
 ·simp only [mG,uo,aP,Bh,and_true];exact ⟨h,hv⟩
theorem vG {op:HOp HV} (hv:innL p op.vals) (hD:∀x∈bf op.vals,x∈D) (hl:innL p op.lits) (hL:∀id,(L id).inn p):Shape L p D op:=by
 cases op
 case mv nz v =>
  simp only [HOp.vals,aP] at hv
  cases nz with
  | zero=>exact .pure (fun _=>rfl) rfl hv.1
  | succ k=>cases v<;>first|exact .mk (mk:=fun fr=>.ref fr [] (k+1) 0 0) (us0:=[]) (T:=.osl (k+1) 0 []) (q:=True) (fun _=>rfl) (.inl ⟨_,_,rfl⟩) (by simp) (by simp) (fun _=>rfl) (by simp)|exact .pure (fun _=>rfl) rfl hv.1
 case pick c a b =>
  simp only [HOp.vals,aP] at hv
  cases c<;>first|exact .dead fun _=>rfl|skip
  rename_i t
  refine .pure (fun _=>rfl) ?_ ?_<;>simp only [ay]<;>split<;>first|rfl|exact kz|(split<;>first|exact hv.2.1|exact hv.2.2.1)
 case bin op x y=>exact .pure (fun _=>rfl) rfl EG
 case beq ne x y=>refine .pure (fun _=>rfl) ?_ ?_<;>simp only [ay]<;>split<;>first|rfl|exact kz|exact bZ
 case aeq ne n x y=>refine .pure (fun _=>rfl) ?_ ?_<;>simp only [ay]<;>split<;>first|rfl|exact kz|exact bZ
 case un op x=>refine .pure (fun _=>rfl) ?_ ?_<;>simp only [ay]<;>split<;>first|rfl|exact kz|exact bZ|exact iO
 case conv k x=>refine .pure (fun _=>rfl) ?_ ?_<;>simp only [ay]<;>split<;>first|rfl|exact bZ|exact iO
 case newv sz x =>
  simp only [HOp.vals,aP,bf,List.append_nil] at hv hD
  obtain ⟨a1,a2,a3⟩:=wo (D:=D) (qj hv.1) (fun x hx=>hD x (lq hx)) hL
  exact .mk (mk:=fun fr=>.pref fr [] 0) (fun _=>rfl) (.inr (.inl rfl)) (by simpa using a1) a2 (fun h=>by cases h) a3
 case newz zs=>exact .mk (mk:=fun fr=>.pref fr [] 0) (us0:=[]) (T:=.optr zs) (q:=True) (fun _=>rfl) (.inr (.inl rfl)) (by simpa [HOp.lits] using hl) (by simp) (fun _=>rfl) (by simp)
 case bld zs ps =>
  refine .pure (fun _=>rfl) rfl ?_
  simp only [ay,nJ]
  exact BK hl fun q hq=>hv q.2.2 (List.mem_map_of_mem hq)
 case bsl sz n xs =>
  obtain ⟨a1,a2,a3⟩:=wo (D:=D) (FK (p:=p) (l:=xs) hv) (fun x hx=>hD x (tX hx)) hL
  exact .mk (mk:=fun fr=>.ref fr [] sz 0 n) (fun _=>rfl) (.inl ⟨_,_,rfl⟩) (by simpa using a1) a2 (fun h=>by cases h) a3
 case load a sz x =>
  simp only [HOp.vals,aP] at hv
  cases x<;>first|exact .dead fun _=>rfl|skip
  ·have h1:=hv.1
   simp only [uS] at h1
   cases a
   ·exact .pure (fun _=>rfl) rfl (h1.getD _)
   ·exact .pure (fun _=>rfl) rfl (by simp only [ay];simpa using h1.win _ _)
  ·rename_i id q off
   have h1:=hv.1
   simp only [sJ] at h1
   have h2:=uZ (jE (hL id) q)
   cases a
   ·exact .pure (fun _=>rfl) rfl (BH h1 (h2.getD _))
   ·exact .pure (fun _=>rfl) rfl (by simp only [ay];simpa using h2.win _ _)
 case store fl sz x y =>
  simp only [HOp.vals,aP,bf,List.append_nil,List.mem_append] at hv hD
  cases x<;>first|exact .dead fun _=>rfl|skip
  rename_i id q off
  obtain ⟨a1,a2,a3⟩:=wo (D:=D) (qj hv.2.1) (fun x hx=>hD x (.inr (lq hx))) hL
  have ht:=uQ hL a2 id
  refine ⟨(ay L 0 (.store fl sz (.pref id q off) y)).2.1,?_,(fun h=>by cases h),?_,.inl ⟨_,_,?_,fun _=>rfl⟩⟩
  ·intro u hu
   simp only [ay,List.mem_append,List.mem_singleton] at hu
   rcases hu with (hu|hu)|rfl
   ·exact a2 u hu
   ·cases fl<;>simp at hu
    subst hu;trivial
   ·exact ⟨hD id (.inl (by simp [HV.deep])),rW (zy (jE ht q) (o6 (uZ (jE ht q)) a1 off)) ht q⟩
  ·intro hk u hu
   simp only [HOp.killer,Bool.not_eq_false'] at hk
   subst hk
   simp only [ay,List.mem_append,List.mem_singleton,if_true,List.not_mem_nil,or_false] at hu
   rcases hu with hu|rfl
   ·exact a3 u hu
   ·exact ⟨_,_,rfl⟩
  ·exact bZ
 case nilck x =>
  simp only [HOp.vals,aP] at hv
  cases x<;>first|exact .dead fun _=>rfl|exact .pure (fun _=>rfl) rfl hv.1
 case mkfn f xs=>exact .pure (fun _=>rfl) rfl (by simp only [ay,wI];exact hv)
 case mksl sz bytes z l =>
  cases l<;>first|exact .dead fun _=>rfl|skip
  rename_i k n
  cases k<;>first|exact .dead fun _=>rfl|skip
  refine .mk (mk:=fun fr=>.ref fr [] sz 0 n.toNat) (us0:=[]) (fun _=>rfl) (.inl ⟨_,_,rfl⟩) ?_ (by simp) (fun _=>rfl) (by simp)
  simp only [qc]
  intro v hv'
  obtain ⟨l,hl',hv'⟩:=List.mem_flatten.1 hv'
  rw [List.mem_replicate] at hl'
  rw [hl'.2] at hv'
  exact hl v hv'
 case slc sz x lo hi =>
  simp only [HOp.vals,aP] at hv
  refine .pure (fun _=>rfl) ?_ ?_
  ·simp only [ay]
   repeat' split
   all_goals rfl
  ·simp only [ay]
   split
   ·split
    ·split
     ·simp only [IK];exact innL.win (by simpa using hv.1) _ _
     ·exact bZ
    ·split
     ·simpa using hv.1
     ·exact bZ
    ·exact bZ
   ·exact bZ
 case faddr d x =>
  simp only [HOp.vals,aP] at hv
  cases x<;>first|exact .dead fun _=>rfl|exact .pure (fun _=>rfl) rfl (by simpa [ay] using hv.1)
 case fld a sz off x =>
  simp only [HOp.vals,aP] at hv
  cases x<;>first|exact .dead fun _=>rfl|skip
  have h1:=hv.1
  simp only [nJ] at h1
  cases a
  ·exact .pure (fun _=>rfl) rfl (h1.getD _)
  ·exact .pure (fun _=>rfl) rfl (by simp only [ay];simpa using h1.win _ _)
 case iaddr sz x i =>
  simp only [HOp.vals,aP] at hv
  cases i<;>first|exact .dead fun _=>rfl|skip
  cases x<;>first|exact .dead fun _=>rfl|exact .pure (fun _=>rfl) rfl (by simpa [ay] using hv.1)
 case ext x i =>
  simp only [HOp.vals,aP] at hv
  cases x<;>first|exact .dead fun _=>rfl|skip
  have h1:=hv.1
  simp only [qZ] at h1
  exact .pure (fun _=>rfl) rfl (h1.getD _)
 case len x=>cases x<;>first|exact .dead fun _=>rfl|exact .pure (fun _=>rfl) rfl iO
 case app fl sz bytes x y =>
  simp only [HOp.vals,aP,bf,List.append_nil,List.mem_append] at hv hD
  obtain ⟨a1,a2,a3⟩:=E8 (D:=D) (fl:=fl) (sz:=sz) hv.2.1 (fun x hx=>hD x (.inr hx)) hL
  cases x<;>first|exact .dead fun _=>rfl|skip
  ·exact .mk (mk:=fun fr=>.ref fr [] sz 0 (dQ L fl sz y).1) (fun _=>rfl) (.inl ⟨_,_,rfl⟩) (by simpa using a1) a2 (fun h=>by cases h) a3
  ·rename_i id q sz' off n
   have ht:=uQ hL a2 id
   have hn:=jE ht q
   simp only [Shape]
   generalize htt:Lk.upd L (dQ L fl sz y).2.2.1 id=t at ht hn
   generalize hnn:aA t q=nd at hn
   have dd:(∀fr,ay L fr (.app fl sz bytes (.ref id q sz' off n) y)=(.dead,[],False))->Shape L p D (.app fl sz bytes (.ref id q sz' off n) y):=fun h=>.dead h
   cases nd with
   | osl s m cs =>
    simp only [qc] at hn
    refine Shape.mk (mk:=fun fr=>.ref fr [] sz 0 (n+(dQ L fl sz y).1)) (us0:=(dQ L fl sz y).2.2.1++[.put id (dB .dead t q)]) (T:=.osl sz (n+(dQ L fl sz y).1) (win cs off (n*sz)++(dQ L fl sz y).2.1))
     (q:=(dQ L fl sz y).2.2.2/\(n+(dQ L fl sz y).1)*bytes<=140737488355328/\n+(dQ L fl sz y).1<=maxLen/\sz'=sz/\off+n*sz<=cs.length) (fun fr=>?_) (.inl ⟨_,_,rfl⟩) ?_ ?_ (fun h=>by cases h) ?_
    ·simp only [ay,htt,hnn,List.append_assoc,List.cons_append,List.nil_append]
    ·simp only [qc,uo];exact ⟨hn.win _ _,a1⟩
    ·intro u hu
     simp only [List.mem_append,List.mem_singleton] at hu
     rcases hu with hu|rfl
     ·exact a2 u hu
     ·exact ⟨hD id (.inl (by simp [HV.deep])),rW bZ ht q⟩
    ·intro u hu
     simp only [List.mem_append,List.mem_singleton] at hu
     rcases hu with hu|rfl
     ·exact a3 u hu
     ·exact ⟨_,_,rfl⟩
   | _=>exact dd fun fr=>by simp only [ay,htt,hnn]
 case mm mx x y=>refine .pure (fun _=>rfl) ?_ ?_<;>simp only [ay]<;>split<;>first|rfl|exact iO|exact bZ
 case cpy x y =>
  simp only [HOp.vals,aP,bf,List.append_nil,List.mem_append] at hv hD
  obtain ⟨a1,_,_⟩:=E8 (D:=D) (fl:=true) (sz:=1) hv.2.1 (fun x hx=>hD x (.inr hx)) hL
  cases x<;>first|exact .dead fun _=>rfl|skip
  rename_i id q sz' off n
  refine ⟨(ay L 0 (.cpy (.ref id q sz' off n) y)).2.1,?_,(fun h=>by cases h),?_,.inl ⟨_,_,?_,fun _=>rfl⟩⟩
  ·intro u hu
   simp only [ay,List.mem_singleton] at hu
   subst hu
   exact ⟨hD id (.inl (by simp [HV.deep])),rW (zy (jE (hL id) q) (o6 (uZ (jE (hL id) q)) (fun v hv=>a1 v (List.mem_of_mem_take hv)) off)) (hL id) q⟩
  ·intro _ u hu
   simp only [ay,List.mem_singleton] at hu
   subst hu
   exact ⟨_,_,rfl⟩
  ·exact iO
 case slz sz x =>
  cases x<;>first|exact .dead fun _=>rfl|exact .mk (mk:=fun fr=>.ref fr [] sz 0 0) (us0:=[]) (T:=.osl sz 0 []) (q:=True) (fun _=>rfl) (.inl ⟨_,_,rfl⟩) (by simp) (by simp) (fun _=>rfl) (by simp)
 case isn ne x=>refine .pure (fun _=>?_) ?_ ?_<;>simp only [ay]<;>cases x<;>first|rfl|exact kz|exact bZ
 case mnil ne x =>
  cases x<;>first|exact .dead fun _=>rfl|exact .pure (fun _=>rfl) rfl kz|skip
  rename_i id q
  generalize hnn:aA (L id) q=nd
  cases nd with
  | omap m ks cs=>exact .pure (fun _=>by simp only [ay]) (by simp only [ay,hnn]) (by simp only [ay,hnn];exact kz)
  | _=>exact .dead (q:=False) fun fr=>by simp only [ay,hnn]
 case mkmap kk=>exact .mk (mk:=fun fr=>.mref fr []) (us0:=[]) (T:=.omap ⟨kk,none⟩ [] []) (q:=True) (fun _=>rfl) (.inr (.inr rfl)) (by simp) (by simp) (fun _=>rfl) (by simp)
 case mlook ok kk z x k =>
  simp only [HOp.vals,aP] at hv
  simp only [HOp.lits,aP] at hl
  refine .pure (fun _=>rfl) ?_ ?_
  ·simp only [ay]
   repeat' split
   all_goals rfl
  ·simp only [ay]
   split
   ·exact lQ hl.1
   ·rename_i m ks cs
    have h1:=hv.1
    simp only [vZ] at h1
    split
    ·exact lQ (h1.getD _)
    ·exact lQ hl.1
   ·rename_i id q
    have h1:=hv.1
    simp only [rX] at h1
    have h2:=jE (hL id) q
    split
    ·rename_i m ks cs hnn
     rw [hnn] at h2
     simp only [mG] at h2
     split
     ·exact lQ (BH h1 (h2.getD _))
     ·exact lQ hl.1
    ·exact bZ
   ·exact bZ
 case mset kk x k v =>
  simp only [HOp.vals,aP,bf,List.append_nil,List.mem_append] at hv hD
  cases x<;>first|exact .dead fun _=>rfl|skip
  rename_i id q
  obtain ⟨a1,a2,a3⟩:=BA (D:=D) hv.2.2.1 (fun x hx=>hD x (.inr (.inr hx))) hL
  have ht:=uQ hL a2 id
  generalize hnn:aA (Lk.upd L (takeC L v).2.1 id) q=nd
  cases nd with
  | omap m ks cs =>
   have hcs:=jE ht q
   rw [hnn] at hcs
   simp only [mG] at hcs
   refine ⟨(takeC L v).2.1++[.kill id q.length]++[.put id (dB (qx m ks cs k (takeC L v).1) (Lk.upd L (takeC L v).2.1 id) q)],?_,(fun h=>by cases h),(fun h=>by cases h),.inl ⟨.dead,(takeC L v).2.2/\m.kind=kk/\dJ kk k=true,bZ,fun fr=>by simp only [ay,hnn]⟩⟩
   intro u hu
   simp only [List.mem_append,List.mem_singleton] at hu
   rcases hu with (hu|rfl)|rfl
   ·exact a2 u hu
   ·trivial
   ·exact ⟨hD id (.inl (by simp [HV.deep])),rW (JS hcs a1) ht q⟩
  | _=>exact .dead (q:=False) fun fr=>by simp only [ay,hnn]
 case mlen x =>
  cases x<;>first|exact .dead fun _=>rfl|exact .pure (fun _=>rfl) rfl iO|skip
  rename_i id q
  generalize hnn:aA (L id) q=nd
  cases nd with
  | omap m ks cs=>exact .pure (fun _=>by simp only [ay]) (by simp only [ay,hnn]) (by simp only [ay,hnn];exact iO)
  | _=>exact .dead (q:=False) fun fr=>by simp only [ay,hnn]
 case mrng=>exact .dead fun _=>rfl
 case mnxt=>exact .dead fun _=>rfl
 case ment=>exact .dead fun _=>rfl
 case tostr x =>
  cases x<;>first|exact .dead fun _=>rfl|exact .pure (fun _=>rfl) rfl LC|exact .pure (fun _=>rfl) xO xC|skip
  rename_i id q sz off n
  generalize hnn:aA (L id) q=nd
  cases nd with
  | osl s m cs=>exact .pure (fun _=>by simp only [ay]) (by simp only [ay,hnn];exact xO) (by simp only [ay,hnn];exact xC)
  | _=>exact .dead (q:=False) fun fr=>by simp only [ay,hnn]
 case call=>exact .dead fun _=>rfl
 case callv=>exact .dead fun _=>rfl
 case bad=>exact .dead fun _=>rfl
theorem vT {op:HOp HV} (h:∀x∈bf op.vals,L x=L' x) (fr:Nat):ay L fr op=ay L' fr op:=by
 cases op<;>first|rfl|skip
 case newv sz x =>
  simp only [HOp.vals,bf,List.append_nil] at h
  simp only [ay,oN (L:=L) (L':=L') (l:=cellsOf x) fun x hx=>h x (lq hx)]
 case bsl sz n xs=>simp only [ay,oN (L:=L) (L':=L') (l:=xs.flatMap cellsOf) fun x hx=>h x (tX hx)]
 case load a sz x =>
  cases x<;>first|rfl|skip
  rename_i id q off
  have:=h id (by simp [HOp.vals,bf,HV.deep])
  simp only [ay,this]
 case store fl sz x y =>
  cases x<;>first|rfl|skip
  rename_i id q off
  simp only [HOp.vals,bf,List.append_nil,List.mem_append] at h
  have e1:=oN (L:=L) (L':=L') (l:=cellsOf y) fun x hx=>h x (.inr (lq hx))
  have e2:Lk.upd L (fF L' (cellsOf y)).2.1 id=Lk.upd L' (fF L' (cellsOf y)).2.1 id:=tY (.inr (h id (.inl (by simp [HV.deep]))))
  simp only [ay,e1,e2]
 case app fl sz bytes x y =>
  simp only [HOp.vals,bf,List.append_nil,List.mem_append] at h
  have e1:=wW (L:=L) (L':=L') (fl:=fl) (sz:=sz) (v:=y) fun x hx=>h x (.inr hx)
  cases x<;>(try (simp only [ay,e1];done))<;>try rfl
  rename_i id q sz' off n
  have e2:Lk.upd L (dQ L' fl sz y).2.2.1 id=Lk.upd L' (dQ L' fl sz y).2.2.1 id:=tY (.inr (h id (.inl (by simp [HV.deep]))))
  simp only [ay,e1,e2]
 case cpy x y =>
  simp only [HOp.vals,bf,List.append_nil,List.mem_append] at h
  have e1:=wW (L:=L) (L':=L') (fl:=true) (sz:=1) (v:=y) fun x hx=>h x (.inr hx)
  cases x<;>(try (simp only [ay,e1];done))<;>try rfl
  rename_i id q sz' off n
  have e2:=h id (.inl (by simp [HV.deep]))
  simp only [ay,e1,e2]
 case mnil ne x =>
  cases x<;>first|rfl|skip
  rename_i id q
  have:=h id (by simp [HOp.vals,bf,HV.deep])
  simp only [ay,this]
 case mlook ok kk z x k =>
  cases x<;>first|rfl|skip
  rename_i id q
  have:=h id (by simp [HOp.vals,bf,HV.deep])
  simp only [ay,this]
 case mset kk x k v =>
  cases x<;>first|rfl|skip
  rename_i id q
  simp only [HOp.vals,bf,List.append_nil,List.mem_append] at h
  have e1:=uC (L:=L) (L':=L') (v:=v) fun x hx=>h x (.inr (.inr hx))
  have e2:Lk.upd L (takeC L' v).2.1 id=Lk.upd L' (takeC L' v).2.1 id:=tY (.inr (h id (.inl (by simp [HV.deep]))))
  simp only [ay,e1,e2]
 case mlen x =>
  cases x<;>first|rfl|skip
  rename_i id q
  have:=h id (by simp [HOp.vals,bf,HV.deep])
  simp only [ay,this]
 case tostr x =>
  cases x<;>first|rfl|skip
  rename_i id q sz off n
  have:=h id (by simp [HOp.vals,bf,HV.deep])
  simp only [ay,this]
theorem ET {op:HOp HV} (h:op.touch=false) (fr:Nat):ay L fr op=ay L' fr op:=by
 cases op<;>first|rfl|cases h
end
end Go.HL
end
section
namespace Go.HL
open Go.RowKit
mutual
def HV.rn (g:Nat->Nat):HV->HV
 | .ref i p sz o n=>.ref (g i) p sz o n
 | .pref i p o=>.pref (g i) p o
 | .mref i p=>.mref (g i) p
 | .agg cs=>.agg (LD g cs)
 | .tup cs=>.tup (LD g cs)
 | .fn f cs=>.fn f (LD g cs)
 | v=>v
def LD (g:Nat->Nat):List HV->List HV
 | []=>[]
 | v::r=>v.rn g::LD g r
end
def zx (g:Nat->Nat):Upd->Upd
 | .put id t=>.put (g id) t
 | .kill id n=>.kill (g id) n
mutual
theorem HV.rn_id (g:Nat->Nat):∀v:HV,v.inn (fun i=>g i=i)->v.rn g=v
 | .ref i p sz o n,h=>by simp only [yB] at h;simp only [HV.rn,h]
 | .pref i p o,h=>by simp only [sJ] at h;simp only [HV.rn,h]
 | .mref i p,h=>by simp only [rX] at h;simp only [HV.rn,h]
 | .agg cs,h=>by simp only [nJ] at h;simp only [HV.rn,yE g cs h]
 | .tup cs,h=>by simp only [qZ] at h;simp only [HV.rn,yE g cs h]
 | .fn f cs,h=>by simp only [wI] at h;simp only [HV.rn,yE g cs h]
 | .int ..,_=>rfl
 | .bool _,_=>rfl
 | .str _,_=>rfl
 | .nils,_=>rfl
 | .nilp,_=>rfl
 | .nilf,_=>rfl
 | .sl ..,_=>rfl
 | .osl ..,_=>rfl
 | .ptr ..,_=>rfl
 | .optr _,_=>rfl
 | .nilm,_=>rfl
 | .rmap ..,_=>rfl
 | .omap ..,_=>rfl
 | .oitr ..,_=>rfl
 | .dead,_=>rfl
theorem yE (g:Nat->Nat):∀l:List HV,innL (fun i=>g i=i) l->LD g l=l
 | [],_=>rfl
 | v::r,h=>by simp only [aP] at h;simp only [LD,HV.rn_id g v h.1,yE g r h.2]
end
def Rh (fr fr':Nat) (g:Nat->Nat) (x y:HV×List Upd×Nat):Prop :=
 fr<=x.2.2/\y.2.2+fr=x.2.2+fr'/\((∀k,fr<=k->k<x.2.2->g k=k - fr+fr')->y.1=x.1.rn g/\y.2.1=x.2.1.map (zx g)) /\
  x.1.inn (fun i=>fr<=i/\i<x.2.2)/\∀u∈x.2.1,∃id t,u=.put id t/\fr<=id/\id<x.2.2/\t.deep=[]
def OL (fr fr':Nat) (g:Nat->Nat) (x y:List HV×List Upd×Nat):Prop :=
 fr<=x.2.2/\y.2.2+fr=x.2.2+fr'/\((∀k,fr<=k->k<x.2.2->g k=k - fr+fr')->y.1=LD g x.1/\y.2.1=x.2.1.map (zx g)) /\
  innL (fun i=>fr<=i/\i<x.2.2) x.1/\∀u∈x.2.1,∃id t,u=.put id t/\fr<=id/\id<x.2.2/\t.deep=[]
theorem HV.inn_mono {p q:Nat->Prop} {v:HV} (h:v.inn p) (hpq:∀x,p x->q x):v.inn q:=fun x hx=>hpq x (h x hx)
theorem innL.mono {p q:Nat->Prop} {v:List HV} (h:innL p v) (hpq:∀x,p x->q x):innL q v:=fun x hx=>HV.inn_mono (h x hx) hpq
mutual
theorem tN (g:Nat->Nat):∀ (v:HV) (fr fr':Nat),v.deep=[]->Rh fr fr' g (unpack fr v) (unpack fr' v)
 | .osl sz n cs,fr,fr',hd=>by
  refine ⟨by simp [unpack],by simp [unpack];omega,fun h=>?_,by simp [unpack],by intro u hu;simp only [unpack,List.mem_singleton] at hu;exact ⟨_,_,hu,Nat.le_refl _,Nat.lt_succ_self _,hd⟩⟩
  have:=h fr (Nat.le_refl _) (by simp [unpack])
  simp [unpack,HV.rn,zx,this]
 | .optr cs,fr,fr',hd=>by
  refine ⟨by simp [unpack],by simp [unpack];omega,fun h=>?_,by simp [unpack],by intro u hu;simp only [unpack,List.mem_singleton] at hu;exact ⟨_,_,hu,Nat.le_refl _,Nat.lt_succ_self _,hd⟩⟩
  have:=h fr (Nat.le_refl _) (by simp [unpack])
  simp [unpack,HV.rn,zx,this]
 | .omap m ks cs,fr,fr',hd=>by
  refine ⟨by simp [unpack],by simp [unpack];omega,fun h=>?_,by simp [unpack],by intro u hu;simp only [unpack,List.mem_singleton] at hu;exact ⟨_,_,hu,Nat.le_refl _,Nat.lt_succ_self _,hd⟩⟩
  have:=h fr (Nat.le_refl _) (by simp [unpack])
  simp [unpack,HV.rn,zx,this]
 | .oitr b s l c,fr,fr',hd=>by
  refine ⟨by simp [unpack],by simp [unpack];omega,fun h=>?_,by simp [unpack],by intro u hu;simp only [unpack,List.mem_singleton] at hu;exact ⟨_,_,hu,Nat.le_refl _,Nat.lt_succ_self _,hd⟩⟩
  have:=h fr (Nat.le_refl _) (by simp [unpack])
  simp [unpack,HV.rn,zx,this]
 | .agg cs,fr,fr',hd=>by
  obtain ⟨h1,h2,h3,h4,h5⟩:=nD g cs fr fr' hd
  exact ⟨h1,h2,fun h=>by have:=h3 h;simp only [unpack,HV.rn];exact ⟨by rw [this.1],this.2⟩,by simpa [unpack] using h4,h5⟩
 | .tup cs,fr,fr',hd=>by
  obtain ⟨h1,h2,h3,h4,h5⟩:=nD g cs fr fr' hd
  exact ⟨h1,h2,fun h=>by have:=h3 h;simp only [unpack,HV.rn];exact ⟨by rw [this.1],this.2⟩,by simpa [unpack] using h4,h5⟩
 | .fn f cs,fr,fr',hd=>by
  obtain ⟨h1,h2,h3,h4,h5⟩:=nD g cs fr fr' hd
  exact ⟨h1,h2,fun h=>by have:=h3 h;simp only [unpack,HV.rn];exact ⟨by rw [this.1],this.2⟩,by simpa [unpack] using h4,h5⟩
 | .ref i p sz o n,fr,fr',hd=>by cases hd
 | .pref i p o,fr,fr',hd=>by cases hd
 | .mref i p,fr,fr',hd=>by cases hd
 | .nilm,fr,fr',hd=>⟨Nat.le_refl _,Nat.add_comm _ _,fun _=>⟨rfl,rfl⟩,by simp [unpack],by simp [unpack]⟩
 | .int ..,fr,fr',hd=>⟨Nat.le_refl _,Nat.add_comm _ _,fun _=>⟨rfl,rfl⟩,by simp [unpack],by simp [unpack]⟩
 | .bool _,fr,fr',hd=>⟨Nat.le_refl _,Nat.add_comm _ _,fun _=>⟨rfl,rfl⟩,by simp [unpack],by simp [unpack]⟩
 | .str _,fr,fr',hd=>⟨Nat.le_refl _,Nat.add_comm _ _,fun _=>⟨rfl,rfl⟩,by simp [unpack],by simp [unpack]⟩
 | .nils,fr,fr',hd=>⟨Nat.le_refl _,Nat.add_comm _ _,fun _=>⟨rfl,rfl⟩,by simp [unpack],by simp [unpack]⟩
 | .nilp,fr,fr',hd=>⟨Nat.le_refl _,Nat.add_comm _ _,fun _=>⟨rfl,rfl⟩,by simp [unpack],by simp [unpack]⟩
 | .nilf,fr,fr',hd=>⟨Nat.le_refl _,Nat.add_comm _ _,fun _=>⟨rfl,rfl⟩,by simp [unpack],by simp [unpack]⟩
 | .dead,fr,fr',hd=>⟨Nat.le_refl _,Nat.add_comm _ _,fun _=>⟨rfl,rfl⟩,by simp [unpack],by simp [unpack]⟩
 | .sl n cs,fr,fr',hd=>⟨Nat.le_refl _,Nat.add_comm _ _,fun _=>⟨rfl,rfl⟩,(by intro x hx;simp only [unpack] at hx;rw [hd] at hx;cases hx),(by simp [unpack])⟩
 | .ptr cs o,fr,fr',hd=>⟨Nat.le_refl _,Nat.add_comm _ _,fun _=>⟨rfl,rfl⟩,(by intro x hx;simp only [unpack] at hx;rw [hd] at hx;cases hx),(by simp [unpack])⟩
 | .rmap m ks cs,fr,fr',hd=>⟨Nat.le_refl _,Nat.add_comm _ _,fun _=>⟨rfl,rfl⟩,(by intro x hx;simp only [unpack] at hx;rw [hd] at hx;cases hx),(by simp [unpack])⟩
theorem nD (g:Nat->Nat):∀ (l:List HV) (fr fr':Nat),bf l=[]->OL fr fr' g (aW fr l) (aW fr' l)
 | [],fr,fr',hd=>⟨Nat.le_refl _,Nat.add_comm _ _,fun _=>⟨rfl,rfl⟩,by simp [aW],by simp [aW]⟩
 | v::r,fr,fr',hd=>by
  simp only [bf,List.append_eq_nil_iff] at hd
  obtain ⟨a1,a2,a3,a4,a5⟩:=tN g v fr fr' hd.1
  obtain ⟨b1,b2,b3,b4,b5⟩:=nD g r (unpack fr v).2.2 (unpack fr' v).2.2 hd.2
  refine ⟨by simp only [aW];omega,by simp only [aW];omega,fun h=>?_,?_,?_⟩
  ·simp only [aW] at h ⊢
   obtain ⟨c1,c2⟩:=a3 fun k h1 h2=>h k h1 (by omega)
   obtain ⟨c3,c4⟩:=b3 fun k h1 h2=>by rw [h k (by omega) h2];omega
   simp only [LD,c1,c2,c3,c4,List.map_append,and_self]
  ·simp only [aW,aP]
   exact ⟨HV.inn_mono a4 fun x hx=>by omega,b4.mono fun x hx=>by omega⟩
  ·intro u hu
   simp only [aW,List.mem_append] at hu ⊢
   rcases hu with hu|hu
   ·obtain ⟨id,t,e,h1,h2,h3⟩:=a5 u hu
    exact ⟨id,t,e,h1,by omega,h3⟩
   ·obtain ⟨id,t,e,h1,h2,h3⟩:=b5 u hu
    exact ⟨id,t,e,by omega,h2,h3⟩
end
end Go.HL
end
section
namespace Go.HL
open Go.RowKit
def kZ (C:kL) (D:FuncId->List HV->HV->Prop) (M:Lk) (fr:Nat):HOp HV->Prop
 | .call f xs=>C f (dO dD M xs) (D f (dO dD M xs))/\∀r,D f (dO dD M xs) r->r.deep=[]->(aX xs || r.noRd)=true/\(unpack fr r).2.2<=fr+stride
 | .callv (.fn f cap) xs=>C f (dO dD M (xs++cap)) (D f (dO dD M (xs++cap)))/\∀r,D f (dO dD M (xs++cap)) r->r.deep=[]->(aX (xs++cap) || r.noRd)=true/\(unpack fr r).2.2<=fr+stride
 | op=>(ay M fr op).2.2
def nC (D:FuncId->List HV->HV->Prop) (M:Lk) (fr:Nat) (e:HV×List Upd):HOp HV->Prop
 | .call f xs=>∃r,D f (dO dD M xs) r/\r.deep=[]/\e=((unpack fr r).1,(unpack fr r).2.1)
 | .callv (.fn f cap) xs=>∃r,D f (dO dD M (xs++cap)) r/\r.deep=[]/\e=((unpack fr r).1,(unpack fr r).2.1)
 | op=>e=((ay M fr op).1,(ay M fr op).2.1)
def gd (all:List aB) (o:aB) (S:Lk):Option Bool :=
 match o.guard with
 | none=>some true
 | some (j,want)=>match ((all[j]?).bind (·.dst)).map S with
  | some (.bool b)=>some (b==want)
  | some (.tup [])=>some false
  | _=>none
def fA (C:kL) (D:FuncId->List HV->HV->Prop) (all:List aB) (fr:Nat) (o:aB) (S M:Lk):Prop :=
 match gd all o S with
 | some true=>kZ C D M fr (o.op.map (dN S))
 | some false=>True
 | none=>False
def gy (D:FuncId->List HV->HV->Prop) (all:List aB) (fr:Nat) (o:aB) (S M:Lk) (e:HV×List Upd):Prop :=
 match gd all o S with
 | some true=>nC D M fr e (o.op.map (dN S))
 | some false=>e=(.tup [],[])
 | none=>False
def jv (o:aB) (e:HV×List Upd) (S:Lk):Lk:=fun t=>if o.dst=some t then e.1 else pg S e.2 t
def pV (e:HV×List Upd) (M:Lk):Lk:=Lk.upd M e.2
def iD (o:aB) (S:Lk):List Nat:=bf (o.op.map (dN S)).vals
def slotsOf:List HX->List Nat
 | []=>[]
 | .t i::r=>i::slotsOf r
 | .c _::r=>slotsOf r
def looks (all:List aB) (o:aB):List Nat :=
 slotsOf o.op.vals++(match o.guard with|none=>[]|some (j,_)=>((all[j]?).bind (·.dst)).toList)
theorem FV {α β:Type} {g g':α->β} {o:HOp α} (h:∀x∈o.vals,g x=g' x):o.map g=o.map g':=by
 cases o<;>simp_all [HOp.vals,HOp.map]
 case bld zs ps =>
  intro a b c hx
  exact h c a b hx
 case slc sz x lo hi =>
  refine ⟨?_,?_⟩
  ·cases lo<;>simp_all
  ·cases hi<;>simp_all
theorem Hy {S S':Lk} {l:List HX} (h:∀t∈slotsOf l,S t=S' t):∀x∈l,dN S x=dN S' x:=by
 induction l with
 | nil=>simp
 | cons y r ih =>
  intro x hx
  cases y with
  | t i =>
   simp only [slotsOf,List.mem_cons] at h
   rcases List.mem_cons.1 hx with rfl|hx
   ·exact h i (.inl rfl)
   ·exact ih (fun t ht=>h t (.inr ht)) x hx
  | c v =>
   rcases List.mem_cons.1 hx with rfl|hx
   ·rfl
   ·exact ih h x hx
theorem iT {all:List aB} {o:aB} {S S':Lk} (h:∀t∈looks all o,S t=S' t):o.op.map (dN S)=o.op.map (dN S') :=
 FV (Hy fun t ht=>h t (by simp [looks,ht]))
theorem rD {all:List aB} {o:aB} {S S':Lk} (h:∀t∈looks all o,S t=S' t):gd all o S=gd all o S':=by
 unfold gd
 cases hg:o.guard with
 | none=>rfl
 | some jw =>
  obtain ⟨j,want⟩:=jw
  simp only
  cases hd:(all[j]?).bind (·.dst) with
  | none=>rfl
  | some d =>
   simp only [Option.map_some]
   rw [h d (by simp [looks,hg,hd])]
mutual
theorem Dl {T:Nat->Bool} {L L':Lk}:∀v:HV,(∀x∈v.deep,L x=L' x)->v.thaw T L=v.thaw T L'
 | .ref i p sz o n,h=>by have:=h i (by simp [HV.deep]);simp only [HV.thaw,this]
 | .pref i p o,h=>by have:=h i (by simp [HV.deep]);simp only [HV.thaw,this]
 | .mref i p,h=>by have:=h i (by simp [HV.deep]);simp only [HV.thaw,this]
 | .agg cs,h=>by simp only [HV.thaw,iC cs h]
 | .tup cs,h=>by simp only [HV.thaw,iC cs h]
 | .fn f cs,h=>by simp only [HV.thaw,iC cs h]
 | .int ..,_=>rfl
 | .bool _,_=>rfl
 | .str _,_=>rfl
 | .nils,_=>rfl
 | .nilp,_=>rfl
 | .nilf,_=>rfl
 | .sl ..,_=>rfl
 | .osl ..,_=>rfl
 | .ptr ..,_=>rfl
 | .optr _,_=>rfl
 | .nilm,_=>rfl
 | .rmap ..,_=>rfl
 | .omap ..,_=>rfl
 | .oitr ..,_=>rfl
 | .dead,_=>rfl
theorem iC {T:Nat->Bool} {L L':Lk}:∀l:List HV,(∀x∈bf l,L x=L' x)->dO T L l=dO T L' l
 | [],_=>rfl
 | v::r,h=>by
  simp only [bf,List.mem_append] at h
  simp only [dO,Dl v fun x hx=>h x (.inl hx),iC r fun x hx=>h x (.inr hx)]
end
theorem mZ (a b:List HV):bf (a++b)=bf a++bf b:=by
 induction a with
 | nil=>rfl
 | cons v a ih=>simp [bf,ih]
section
variable {C:kL} {D:FuncId->List HV->HV->Prop} {all:List aB} {M M' S S':Lk} {fr nx i:Nat}
theorem AU {op:HOp HV} (h:op.touch=false\/∀x∈bf op.vals,M x=M' x):kZ C D M fr op=kZ C D M' fr op:=by
 rcases h with h|h
 ·cases op<;>first|cases h;done|exact congrArg (·.2.2) (ET (L:=M) (L':=M') h fr)
 ·cases op
  case call f xs=>simp only [kZ,iC (L:=M) (L':=M') xs h]
  case callv x xs =>
   simp only [HOp.vals,bf,List.mem_append] at h
   cases x
   case fn f cap =>
    have:=iC (T:=dD) (L:=M) (L':=M') (xs++cap) fun x hx=>h x (by rw [mZ,List.mem_append] at hx;exact hx.symm)
    simp only [kZ,this]
   all_goals rfl
  all_goals exact congrArg (·.2.2) (vT (L:=M) (L':=M') h fr)
theorem DL {op:HOp HV} {e:HV×List Upd} (h:op.touch=false\/∀x∈bf op.vals,M x=M' x):nC D M fr e op=nC D M' fr e op:=by
 rcases h with h|h
 ·cases op<;>first|cases h;done|exact congrArg (fun q:HV×List Upd×Prop=>e=(q.1,q.2.1)) (ET (L:=M) (L':=M') h fr)
 ·cases op
  case call f xs=>simp only [nC,iC (L:=M) (L':=M') xs h]
  case callv x xs =>
   simp only [HOp.vals,bf,List.mem_append] at h
   cases x
   case fn f cap =>
    have:=iC (T:=dD) (L:=M) (L':=M') (xs++cap) fun x hx=>h x (by rw [mZ,List.mem_append] at hx;exact hx.symm)
    simp only [nC,this]
   all_goals rfl
  all_goals exact congrArg (fun q:HV×List Upd×Prop=>e=(q.1,q.2.1)) (vT (L:=M) (L':=M') h fr)
theorem lI {o:aB} (hS:∀t∈looks all o,S t=S' t) (hM:o.op.touch=false\/∀x∈iD o S,M x=M' x):fA C D all fr o S M=fA C D all fr o S' M':=by
 unfold fA
 rw [rD hS,iT hS]
 rw [iD,iT hS] at hM
 rw [AU (M:=M) (M':=M') (by rw [HOp.touch_map];exact hM)]
theorem mQ {o:aB} {e:HV×List Upd} (hS:∀t∈looks all o,S t=S' t) (hM:o.op.touch=false\/∀x∈iD o S,M x=M' x):gy D all fr o S M e=gy D all fr o S' M' e:=by
 unfold gy
 rw [rD hS,iT hS]
 rw [iD,iT hS] at hM
 rw [DL (M:=M) (M':=M') (by rw [HOp.touch_map];exact hM)]
def sK (nx i x:Nat):Prop:=nx+stride*i<=x/\x<nx+stride*(i+1)
def nY (nx:Nat) (X:Nat->Prop) (x:Nat):Prop:=x<nx\/∃k,X k/\sK nx k x
structure Inv (nx:Nat) (X:Nat->Prop) (S M:Lk):Prop where
 slots:∀t,(S t).inn (nY nx X)
 trees:∀id,(M id).inn (nY nx X)
 alive:∀id,M id≠.dead->nY nx X id
theorem Eg {i j x:Nat} (h1:sK nx i x) (h2:sK nx j x):i=j:=by
 unfold sK stride at *;omega
theorem lS {X:Nat->Prop} {x:Nat} (h:nY nx X x) (hr:sK nx i x):X i:=by
 rcases h with h|⟨k,hk,h⟩
 ·unfold sK stride at hr;omega
 ·rw [Eg hr h];exact hk
theorem jB {X Y:Nat->Prop} (h:∀k,X k->Y k) {x:Nat} (hx:nY nx X x):nY nx Y x:=hx.imp id fun ⟨k,hk,hr⟩=>⟨k,h k hk,hr⟩
def kP (o:aB):Bool:=(bf o.op.lits).isEmpty&&o.op.vals.all fun|.c v=>v.deep.isEmpty|_=>true
theorem rP {X:Nat->Prop} (hI:Inv nx X S M) {o:aB} (hl:kP o=true):innL (nY nx X) (o.op.map (dN S)).vals:=by
 rw [HOp.vals_map]
 intro v hv
 obtain ⟨x,hx,rfl⟩:=List.mem_map.1 hv
 cases x with
 | t i=>exact hI.slots i
 | c v =>
  simp only [kP,Bool.and_eq_true,List.all_eq_true] at hl
  have:=hl.2 _ hx
  simp only [List.isEmpty_iff] at this
  intro y hy
  simp only [dN,this] at hy
  cases hy
theorem IM {X:Nat->Prop} {o:aB} (hl:kP o=true):innL (nY nx X) (o.op.map (dN S)).lits:=by
 rw [HOp.lits_map,innL_iff]
 simp only [kP,Bool.and_eq_true,List.isEmpty_iff] at hl
 rw [hl.1]
 simp
theorem KZ {X:Nat->Prop} {op:HOp HV} {e:HV×List Upd} (hv:innL (nY nx X) op.vals) (hl:innL (nY nx X) op.lits) (hT:∀id,(M id).inn (nY nx X)) (hs:kZ C D M (nx+stride*i) op) (h:nC D M (nx+stride*i) e op) :
  e.1.inn (nY nx fun k=>X k\/k=i)/\(∀u∈e.2,L8 (nY nx fun k=>X k\/k=i) u)/\(∀x∈gK e.2,sK nx i x\/(op.wrt=true/\x∈bf op.vals))/\(op.killer=false->∀u∈e.2,∃id t,u=.put id t):=by
 have up:∀x,nY nx X x->nY nx (fun k=>X k\/k=i) x:=fun x hx=>jB (fun k hk=>.inl hk) hx
 have r0:sK nx i (nx+stride*i):=by unfold sK stride;omega
 have call:∀ (f:FuncId) (xs:List HV) (args:List HV),(C f args (D f args)/\∀r,D f args r->r.deep=[]->(aX xs || r.noRd)=true/\(unpack (nx+stride*i) r).2.2<=nx+stride*i+stride)->(∃r,D f args r/\r.deep=[]/\e=((unpack (nx+stride*i) r).1,(unpack (nx+stride*i) r).2.1)) ->
   e.1.inn (nY nx fun k=>X k\/k=i)/\(∀u∈e.2,L8 (nY nx fun k=>X k\/k=i) u)/\(∀x∈gK e.2,sK nx i x)/\∀u∈e.2,∃id t,u=.put id t:=by
  rintro f xs args ⟨_,hb⟩ ⟨r,hr,hd,rfl⟩
  obtain ⟨_,_,_,h4,h5⟩:=tN id r (nx+stride*i) (nx+stride*i) hd
  have h6:=(hb r hr hd).2
  have R:∀x,nx+stride*i<=x->x<(unpack (nx+stride*i) r).2.2->sK nx i x:=fun x h1 h2=>⟨h1,by unfold stride at *;omega⟩
  refine ⟨HV.inn_mono h4 fun x hx=>.inr ⟨i,.inr rfl,R x hx.1 hx.2⟩,?_,?_,?_⟩
  ·intro u hu
   obtain ⟨id,t,rfl,h1,h2,h3⟩:=h5 u hu
   exact ⟨.inr ⟨i,.inr rfl,R id h1 h2⟩,fun x hx=>by rw [h3] at hx;cases hx⟩
  ·intro x hx
   generalize (unpack (nx+stride*i) r).2.1=us at h5 hx
   induction us with
   | nil=>cases hx
   | cons u us ih =>
    obtain ⟨id,t,rfl,h1,h2,h3⟩:=h5 u (by simp)
    simp only [gK,List.mem_cons] at hx
    rcases hx with rfl|hx
    ·exact R _ h1 h2
    ·exact ih (fun u hu=>h5 u (by simp [hu])) hx
  ·intro u hu
   obtain ⟨id,t,rfl,_⟩:=h5 u hu
   exact ⟨id,t,rfl⟩
 have plain:e=((ay M (nx+stride*i) op).1,(ay M (nx+stride*i) op).2.1)->e.1.inn (nY nx fun k=>X k\/k=i)/\(∀u∈e.2,L8 (nY nx fun k=>X k\/k=i) u)/\(∀x∈gK e.2,sK nx i x\/(op.wrt=true/\x∈bf op.vals))/\(op.killer=false->∀u∈e.2,∃id t,u=.put id t):=by
  intro he
  obtain ⟨us0,a1,a2,a3,a4⟩:=vG (L:=M) (op:=op) (D:=bf op.vals) hv (fun x hx=>hx) hl hT
  have hv':=innL_iff.1 hv
  have b1:∀u∈us0,L8 (nY nx fun k=>X k\/k=i) u:=fun u hu=>by
   have:=a1 u hu
   cases u with
   | put id t=>exact ⟨up _ (hv' id this.1),HV.inn_mono this.2 up⟩
   | kill=>trivial
  have b2:∀x∈gK us0,sK nx i x\/(op.wrt=true/\x∈bf op.vals):=by
   intro x hx
   right
   refine ⟨?_,?_⟩
   ·cases hw:op.wrt with
    | true=>rfl
    | false=>rw [a2 hw] at hx;cases hx
   ·clear a2 a3 a4 b1
    induction us0 with
    | nil=>cases hx
    | cons u us ih =>
     have ih:=ih (fun u hu=>a1 u (by simp [hu]))
     cases u with
     | put id t =>
      simp only [gK,List.mem_cons] at hx
      rcases hx with rfl|hx
      ·exact (a1 (.put x t) (by simp)).1
      ·exact ih hx
     | kill=>exact ih hx
  rcases a4 with ⟨v,q,h1,h2⟩|⟨mk,T,q,h0,h1,h2⟩
  ·rw [h2] at he
   subst he
   exact ⟨HV.inn_mono h1 up,b1,b2,a3⟩
  ·rw [h2] at he
   subst he
   refine ⟨?_,?_,?_,?_⟩
   ·rcases h0 with ⟨sz,n,rfl⟩|rfl|rfl
    ·simp only [yB];exact .inr ⟨i,.inr rfl,r0⟩
    ·simp only [sJ];exact .inr ⟨i,.inr rfl,r0⟩
    ·simp only [rX];exact .inr ⟨i,.inr rfl,r0⟩
   ·intro u hu
    simp only [List.mem_append,List.mem_singleton] at hu
    rcases hu with hu|rfl
    ·exact b1 u hu
    ·exact ⟨.inr ⟨i,.inr rfl,r0⟩,HV.inn_mono h1 up⟩
   ·intro x hx
    simp only [zX,gK,List.mem_append,List.mem_singleton] at hx
    rcases hx with hx|rfl
    ·exact b2 x hx
    ·exact .inl r0
   ·intro hk u hu
    simp only [List.mem_append,List.mem_singleton] at hu
    rcases hu with hu|rfl
    ·exact a3 hk u hu
    ·exact ⟨_,_,rfl⟩
 have w:(e.1.inn (nY nx fun k=>X k\/k=i)/\(∀u∈e.2,L8 (nY nx fun k=>X k\/k=i) u)/\(∀x∈gK e.2,sK nx i x)/\∀u∈e.2,∃id t,u=.put id t)->e.1.inn (nY nx fun k=>X k\/k=i)/\(∀u∈e.2,L8 (nY nx fun k=>X k\/k=i) u)/\(∀x∈gK e.2,sK nx i x\/(op.wrt=true/\x∈bf op.vals))/\(op.killer=false->∀u∈e.2,∃id t,u=.put id t) :=
  fun ⟨a,b,c,d⟩=>⟨a,b,fun x hx=>.inl (c x hx),fun _=>d⟩
 cases op
 case call f xs=>exact w (call f xs _ hs h)
 case callv x xs =>
  cases x
  case fn f cap=>exact w (call f (xs++cap) _ hs h)
  all_goals exact plain h
 all_goals exact plain h
mutual
theorem rJ {p:Nat->Prop} (id len:Nat):∀v:HV,v.inn p->(v.kill id len).inn p
 | .ref i q sz o n,h=>by simp only [HV.kill];split;exact bZ;exact h
 | .pref i q o,h=>by simp only [HV.kill];split;exact bZ;exact h
 | .mref i q,h=>by simp only [HV.kill];split;exact bZ;exact h
 | .agg cs,h=>by simp only [HV.kill,nJ] at h ⊢;exact pU id len cs h
 | .tup cs,h=>by simp only [HV.kill,qZ] at h ⊢;exact pU id len cs h
 | .fn f cs,h=>by simp only [HV.kill,wI] at h ⊢;exact pU id len cs h
 | .int ..,h=>h
 | .bool _,h=>h
 | .str _,h=>h
 | .nils,h=>h
 | .nilp,h=>h
 | .nilf,h=>h
 | .sl ..,h=>h
 | .osl ..,h=>h
 | .ptr ..,h=>h
 | .optr _,h=>h
 | .nilm,h=>h
 | .rmap ..,h=>h
 | .omap ..,h=>h
 | .oitr ..,h=>h
 | .dead,h=>h
theorem pU {p:Nat->Prop} (id len:Nat):∀l:List HV,innL p l->innL p (kN id len l)
 | [],h=>h
 | v::r,h=>by simp only [kN,aP] at h ⊢;exact ⟨rJ id len v h.1,pU id len r h.2⟩
end
theorem Ey {p:Nat->Prop} {us:List Upd} {S:Lk} (h:∀t,(S t).inn p) (t:Nat):(pg S us t).inn p:=by
 induction us generalizing S with
 | nil=>exact h t
 | cons u us ih =>
  cases u with
  | put=>exact ih h
  | kill id len=>exact ih fun t=>rJ id len _ (h t)
theorem jb {us:List Upd} {S:Lk} (h:∀u∈us,∃id t,u=.put id t):pg S us=S:=by
 induction us generalizing S with
 | nil=>rfl
 | cons u us ih =>
  obtain ⟨id,t,rfl⟩:=h u (by simp)
  exact ih fun u hu=>h u (by simp [hu])
theorem lT {X:Nat->Prop} (hI:Inv nx X S M) {o:aB} (hl:kP o=true) {e:HV×List Upd} (hs:fA C D all (nx+stride*i) o S M) (h:gy D all (nx+stride*i) o S M e) :
  e.1.inn (nY nx fun k=>X k\/k=i)/\(∀u∈e.2,L8 (nY nx fun k=>X k\/k=i) u)/\(∀x∈gK e.2,sK nx i x\/(o.op.wrt=true/\x∈iD o S))/\(o.op.killer=false->∀u∈e.2,∃id t,u=.put id t):=by
 unfold fA at hs
 unfold gy at h
 split at hs
 ·rename_i hg
  rw [hg] at h
  have:=KZ (rP hI hl) (IM hl) hI.trees hs h
  rw [HOp.wrt_map,HOp.killer_map] at this
  exact this
 ·rename_i hg
  rw [hg] at h
  subst h
  simp [gK]
 ·exact hs.elim
theorem Inv.step {X:Nat->Prop} (hI:Inv nx X S M) {o:aB} {e:HV×List Upd} (h1:e.1.inn (nY nx fun k=>X k\/k=i)) (h2:∀u∈e.2,L8 (nY nx fun k=>X k\/k=i) u):Inv nx (fun k=>X k\/k=i) (jv o e S) (pV e M):=by
 have up:∀x,nY nx X x->nY nx (fun k=>X k\/k=i) x:=fun x hx=>jB (fun k hk=>.inl hk) hx
 refine ⟨fun t=>?_,fun id=>?_,fun id hid=>?_⟩
 ·unfold jv
  split
  ·exact h1
  ·exact Ey (fun t=>HV.inn_mono (hI.slots t) up) t
 ·exact Lu (fun id=>HV.inn_mono (hI.trees id) up) h2 id
 ·by_cases ht:id∈gK e.2
  ·generalize e.2=us at h2 ht
   induction us with
   | nil=>cases ht
   | cons u us ih =>
    cases u with
    | put j t =>
     simp only [gK,List.mem_cons] at ht
     rcases ht with rfl|ht
     ·exact (h2 (.put id t) (by simp)).1
     ·exact ih (fun u hu=>h2 u (by simp [hu])) ht
    | kill=>exact ih (fun u hu=>h2 u (by simp [hu])) ht
  ·unfold pV at hid
   rw [jT ht] at hid
   exact up _ (hI.alive id hid)
end
end Go.HL
end
section
namespace Go.HL
open Go.RowKit
def nZ (masks:List Nat) (k i:Nat):Bool:=(masks.getD i 0).testBit k
def oP (all:List aB) (x y:aB):Bool :=
 (match x.dst with|some d=>!(looks all y).contains d&&y.dst != some d|none=>true)&&(match y.dst with|some d=>!(looks all x).contains d|none=>true)
def su (x y:aB):Bool:=(x.op.wrt&&y.op.touch) || (y.op.wrt&&x.op.touch)
def oH (o:aB):Bool:=match o.op,o.guard with
 | .ext (.t _) _,none=>true
 | _,_=>false
def wZ (all:List aB) (x y:aB):Bool:=oP all x y&&(oH x || oH y || (!x.op.killer&&!y.op.killer))
def Ii (masks:List Nat) (all:List aB) (i:Nat) (o:aB):Bool :=
 decide (masks.getD i 0<2 ^ i)&&kP o&&(List.range i).all fun k=>nZ masks k i || (match all[k]? with|some q=>wZ all q o|none=>false)
def lZ (masks:List Nat) (all:List aB):Bool :=
 (List.range all.length).all fun i=>match all[i]? with|some o=>Ii masks all i o|none=>false
theorem lH {all:List aB} {x y:aB} (h:oP all x y=true):(∀d,x.dst=some d->d ∉ looks all y)/\(∀d,x.dst=some d->y.dst≠some d)/\(∀d,y.dst=some d->d ∉ looks all x):=by
 refine ⟨fun d hd=>?_,fun d hd=>?_,fun d hd=>?_⟩<;>simp [oP,hd] at h
 ·exact h.1.1
 ·exact h.1.2
 ·exact h.2
theorem Az {all:List aB} {x y:aB} (h:oP all x y=true):oP all y x=true:=by
 obtain ⟨h1,h2,h3⟩:=lH h
 unfold oP
 cases hx:x.dst with
 | none =>
  cases hy:y.dst with
  | none=>rfl
  | some d=>have:=h3 d hy;simp [this]
 | some d =>
  have a1:=h1 d hx
  have a2:=h2 d hx
  cases hy:y.dst with
  | none=>simp [a1]
  | some d' =>
   have a3:=h3 d' hy
   rw [hy] at a2
   have:¬ d=d':=fun e=>a2 (by rw [e])
   simp [a1,a3,this]
theorem Hu (x y:aB):su x y=su y x:=by unfold su;rw [Bool.or_comm]
def yL (o:aB) (S:Lk):Option Nat:=match o.op.map (dN S) with
 | .load false _ (.pref id [] _)=>some id
 | _=>none
def ng (o:aB) (S:Lk):List Nat:=match yL o S with
 | some id=>[2*id+1]
 | none=>(iD o S).map (2*·)
def yA (o:aB) (S:Lk):Option Nat:=match o.op.map (dN S) with
 | .app true _ _ (.ref id (_::_::_) _ _ _) _=>some id
 | _=>none
def qW (o:aB) (S:Lk) (us:List Upd):List Nat:=(gK us).flatMap fun x=>if yA o S=some x then [2*x] else [2*x,2*x+1]
def uw:HV->HV
 | .osl sz n _=>.osl sz n []
 | .optr _=>.optr []
 | .omap m ks _=>.omap m ks []
 | v=>v
def shallow (t:HV):List HV:=(bg t).map uw
def uK (c:Nat) (M M':Lk):Prop:=if c % 2=0 then M (c / 2)=M' (c / 2) else shallow (M (c / 2))=shallow (M' (c / 2))
theorem EE {c:Nat} {M M':Lk} (h:M (c / 2)=M' (c / 2)):uK c M M':=by
 unfold uK;split
 ·exact h
 ·rw [h]
theorem oW {o:aB} {S:Lk} {c:Nat} (h:c∈ng o S):c / 2∈iD o S:=by
 unfold ng at h
 split at h
 ·rename_i id hs
  simp only [List.mem_singleton] at h
  subst h
  unfold yL at hs
  split at hs
  ·rename_i sz id' off ho
   cases hs
   unfold iD
   rw [ho]
   simp [HOp.vals,bf,HV.deep];omega
  ·cases hs
 ·obtain ⟨x,hx,rfl⟩:=List.mem_map.1 h
  simpa using hx
theorem Bi {o:aB} {S:Lk} {us:List Upd} {c:Nat} (h:c∈qW o S us):c / 2∈gK us:=by
 unfold qW at h
 obtain ⟨x,hx,hc⟩:=List.mem_flatMap.1 h
 split at hc
 ·simp only [List.mem_singleton] at hc;subst hc;simpa using hx
 ·simp only [List.mem_cons,List.not_mem_nil,or_false] at hc
  rcases hc with rfl|rfl
  ·simpa using hx
  ·have:(2*x+1) / 2=x:=by omega
   rw [this];exact hx
theorem ve {o:aB} {S:Lk} {us:List Upd} {x:Nat} (h:x∈gK us):2*x∈qW o S us:=by
 unfold qW
 refine List.mem_flatMap.2 ⟨x,h,?_⟩
 split<;>simp
theorem Ez {o:aB} {S:Lk} {us:List Upd} {x:Nat} (h:x∈gK us) (h2:2*x+1 ∉ qW o S us):yA o S=some x:=by
 by_cases hd:yA o S=some x
 ·exact hd
 ·exact absurd (List.mem_flatMap.2 ⟨x,h,by rw [if_neg hd];simp⟩) h2
theorem Nc {o:aB} {S:Lk} (h:o.op.wrt=true):ng o S=(iD o S).map (2*·):=by
 have:yL o S=none:=by
  unfold yL
  obtain ⟨d,op,g⟩:=o
  cases op<;>simp only [HOp.wrt] at h<;>first|rfl|(cases h;done)
 unfold ng;rw [this]
theorem DX {x:HV} {a:Nat} {q:List Nat} (v:HV):uw (dB x v (a::q))=uw v:=by cases v<;>rfl
theorem zo {x t:HV} {a b:Nat} {q:List Nat}:shallow (dB x t (a::b::q))=shallow t:=by
 have key:∀cs:List HV,(cs.set a (dB x (cs.getD a .dead) (b::q))).map uw=cs.map uw:=fun cs=>by
  rw [List.map_set,DX]
  apply List.ext_getElem?
  intro k
  rw [List.getElem?_set]
  split
  ·rename_i e;subst e
   split
   ·rename_i h;simp at h;simp [h]
   ·rename_i h;simp at h;simp [h]
  ·rfl
 cases t<;>simp only [dB,shallow,bg]<;>first|rfl|exact key _
theorem wF (id:Nat) (p:List Nat) (j:Nat) (v:HV):look id p j v=look id p j (uw v):=by
 cases v<;>rfl
theorem xQ {id off sz fr:Nat} {M M':Lk} (h:shallow (M id)=shallow (M' id)):ay M fr (.load false sz (.pref id [] off))=ay M' fr (.load false sz (.pref id [] off)):=by
 have hl:(bg (M id)).length=(bg (M' id)).length:=by
  have:=congrArg List.length h
  simpa [shallow] using this
 have hg:uw ((bg (M id)).getD off .dead)=uw ((bg (M' id)).getD off .dead):=by
  have:=congrArg (fun l:List HV=>l[off]?) h
  simp only [shallow,List.getElem?_map] at this
  simp only [List.getD_eq_getElem?_getD]
  cases h1:(bg (M id))[off]?<;>cases h2:(bg (M' id))[off]?<;>rw [h1,h2] at this<;>simp_all
 have e1:look id [] off ((bg (M id)).getD off .dead)=look id [] off ((bg (M' id)).getD off .dead):=by rw [wF,hg,<- wF]
 simp only [ay,aA,e1,hl,Bool.false_eq_true,if_false]
abbrev kJ:=List (Nat×List Nat×List Nat)
def chk (masks:List Nat) (all:List aB) (i:Nat) (o:aB) (e:HV×List Upd) (S:Lk) (q:Nat×List Nat×List Nat):Prop :=
 nZ masks q.1 i=false->nZ masks i q.1=false->∀o',all[q.1]?=some o'->su o' o=true->(∀x∈qW o S e.2,x ∉ q.2.2)/\∀x∈q.2.1,x ∉ ng o S
section
variable {C:kL} {D:FuncId->List HV->HV->Prop} {all:List aB} {masks:List Nat} {nx:Nat} {K:Lk->Lk->Prop}
def dr (C:kL) (D:FuncId->List HV->HV->Prop) (all:List aB) (masks:List Nat) (nx:Nat) (K:Lk->Lk->Prop):List Nat->kJ->Lk->Lk->Prop
 | [],_,S,M=>K S M
 | i::l,log,S,M=>∃o,all[i]?=some o/\fA C D all (nx+stride*i) o S M/\(∃e,gy D all (nx+stride*i) o S M e) /\
   ∀e,gy D all (nx+stride*i) o S M e->(∀q∈log,chk masks all i o e S q)/\dr C D all masks nx K l ((i,qW o S e.2,ng o S)::log) (jv o e S) (pV e M)
theorem PG:∀ {l:List Nat} {log log':kJ} {S M:Lk},dr C D all masks nx K l log S M->(∀q∈log',q∈log)->dr C D all masks nx K l log' S M:=by
 intro l
 induction l with
 | nil=>intro log log' S M h _;exact h
 | cons i l ih =>
  intro log log' S M h hl
  obtain ⟨o,ho,hs,he,h⟩:=h
  refine ⟨o,ho,hs,he,fun e hre=>⟨fun q hq=>(h e hre).1 q (hl q hq),ih (h e hre).2 ?_⟩⟩
  intro q hq
  rcases List.mem_cons.1 hq with rfl|hq
  ·simp
  ·exact List.mem_cons_of_mem _ (hl q hq)
theorem zF {o:aB} {S S':Lk} (hS:∀t∈looks all o,S t=S' t):iD o S=iD o S':=by unfold iD;rw [iT hS]
theorem jl {o:aB} {S S':Lk} (hS:∀t∈looks all o,S t=S' t):ng o S=ng o S':=by unfold ng yL;rw [zF hS,iT hS]
theorem jh {o:aB} {S S':Lk} (hS:∀t∈looks all o,S t=S' t) (us:List Upd):qW o S us=qW o S' us:=by unfold qW yA;rw [iT hS]
theorem sH {fr:Nat} {o:aB} {S S' M M':Lk} (hS:∀t∈looks all o,S t=S' t) (hM:o.op.touch=false\/∀c∈ng o S,uK c M M'):fA C D all fr o S M=fA C D all fr o S' M':=by
 rcases hM with h|h
 ·exact lI hS (.inl h)
 ·cases hs:yL o S with
  | none =>
   unfold ng at h
   rw [hs] at h
   refine lI hS (.inr fun x hx=>?_)
   have:=h (2*x) (List.mem_map_of_mem hx)
   unfold uK at this
   rw [if_pos (by omega)] at this
   simpa using this
  | some id =>
   unfold ng at h
   rw [hs] at h
   have hv:=h (2*id+1) (by simp)
   unfold uK at hv
   rw [if_neg (by omega),show (2*id+1) / 2=id by omega] at hv
   unfold fA
   rw [<- rD hS,<- iT hS]
   unfold yL at hs
   split at hs
   ·rename_i sz id' off ho
    cases hs
    rw [ho]
    simp only [kZ,xQ hv]
   ·cases hs
theorem oD {fr:Nat} {o:aB} {e:HV×List Upd} {S S' M M':Lk} (hS:∀t∈looks all o,S t=S' t) (hM:o.op.touch=false\/∀c∈ng o S,uK c M M'):gy D all fr o S M e=gy D all fr o S' M' e:=by
 rcases hM with h|h
 ·exact mQ hS (.inl h)
 ·cases hs:yL o S with
  | none =>
   unfold ng at h
   rw [hs] at h
   refine mQ hS (.inr fun x hx=>?_)
   have:=h (2*x) (List.mem_map_of_mem hx)
   unfold uK at this
   rw [if_pos (by omega)] at this
   simpa using this
  | some id =>
   unfold ng at h
   rw [hs] at h
   have hv:=h (2*id+1) (by simp)
   unfold uK at hv
   rw [if_neg (by omega),show (2*id+1) / 2=id by omega] at hv
   unfold gy
   rw [<- rD hS,<- iT hS]
   unfold yL at hs
   split at hs
   ·rename_i sz id' off ho
    cases hs
    rw [ho]
    simp only [nC,xQ hv]
   ·cases hs
theorem zK {fr:Nat} {o:aB} {e:HV×List Upd} {S M:Lk} {x:Nat} (hs:fA C D all fr o S M) (hr:gy D all fr o S M e) (hd:yA o S=some x) (hx:x≠fr):shallow (pV e M x)=shallow (M x):=by
 unfold yA at hd
 split at hd
 ·rename_i sz bytes id a b q sz2 off n y ho
  cases hd
  unfold fA at hs
  unfold gy at hr
  split at hs
  ·rename_i hg
   rw [hg,ho] at hr
   rw [ho] at hs
   have hn:(dQ M true sz y).2.2.1=[]:=by
    unfold dQ
    split<;>(try split)<;>(try split)<;>first|rfl|simp_all
   simp only [kZ,ay] at hs
   simp only [nC,ay] at hr
   rw [hn] at hs hr
   simp only [Lk.upd] at hs hr
   cases ht:aA (M x) (a::b::q)<;>rw [ht] at hs hr<;>simp only at hs hr<;>(first|exact hs.elim|skip)
   subst hr
   unfold pV
   simp only [List.nil_append,Lk.upd,if_neg hx,if_true]
   exact zo
  ·rename_i hg
   rw [hg] at hr
   subst hr
   rfl
  ·exact hs.elim
 ·cases hd
theorem sQ {o:aB} (h:oH o=true):∃d k i,o=⟨d,.ext (.t k) i,none⟩:=by
 obtain ⟨d,op,g⟩:=o
 cases op<;>simp only [oH] at h<;>(first|(cases h;done)|skip)
 rename_i x i
 cases x<;>cases g<;>simp only at h<;>(first|(cases h;done)|exact ⟨d,_,i,rfl⟩)
theorem lK {o o':aB} (h:oH o=true):su o' o=false/\su o o'=false:=by
 obtain ⟨d,k,i,rfl⟩:=sQ h
 simp [su,HOp.wrt,HOp.touch]
def gI:List Upd->HV->HV
 | [],v=>v
 | .put _ _::r,v=>gI r v
 | .kill id len::r,v=>gI r (v.kill id len)
theorem tq:∀ (us:List Upd) (S:Lk) (t:Nat),pg S us t=gI us (S t)
 | [],_,_=>rfl
 | .put _ _::r,S,t=>tq r S t
 | .kill id len::r,S,t=>tq r (fun t=>(S t).kill id len) t
theorem x9 (id len:Nat):∀l:List HV,kN id len l=l.map fun v=>v.kill id len
 | []=>rfl
 | v::r=>by rw [kN,x9 id len r];rfl
theorem kY:∀ (us:List Upd) (cs:List HV),gI us (.tup cs)=.tup (cs.map (gI us))
 | [],cs=>by simp [gI]
 | .put _ _::r,cs=>by simp only [gI];exact kY r cs
 | .kill id len::r,cs=>by
  simp only [gI,HV.kill,x9]
  rw [kY r,List.map_map]
  rfl
theorem oL:∀ (us:List Upd) (v:HV) {cs:List HV},gI us v=.tup cs->∃cs',v=.tup cs'
 | [],v,cs,h=>⟨cs,h⟩
 | .put _ _::r,v,cs,h=>oL r v h
 | .kill id len::r,v,cs,h=>by
  obtain ⟨cs',h'⟩:=oL r _ h
  cases v<;>simp only [HV.kill] at h'<;>(first|exact ⟨_,rfl⟩|(cases h';done)|(split at h'<;>cases h'))
theorem pO {d:Option Nat} {k i fr:Nat} {S M:Lk} {e:HV×List Upd} (hs:fA C D all fr ⟨d,.ext (.t k) i,none⟩ S M):gy D all fr ⟨d,.ext (.t k) i,none⟩ S M e <-> ∃cs,S k=.tup cs/\i<cs.length/\e=(cs.getD i .dead,[]):=by
 have hs':(ay M fr (.ext (S k) i)).2.2:=hs
 have hd:gy D all fr ⟨d,.ext (.t k) i,none⟩ S M e <-> e=((ay M fr (.ext (S k) i)).1,(ay M fr (.ext (S k) i)).2.1):=Iff.rfl
 rw [hd]
 cases hk:S k<;>rw [hk] at hs'<;>simp only [ay] at hs' ⊢<;>(first|exact hs'.elim|skip)
 rename_i cs
 constructor
 ·intro h;exact ⟨cs,rfl,hs',h⟩
 ·rintro ⟨cs',h1,h2,h3⟩;cases h1;exact h3
theorem ext_side {d:Option Nat} {k i fr:Nat} {S M:Lk}:fA C D all fr ⟨d,.ext (.t k) i,none⟩ S M <-> ∃cs,S k=.tup cs/\i<cs.length:=by
 have hd:fA C D all fr ⟨d,.ext (.t k) i,none⟩ S M <-> (ay M fr (.ext (S k) i)).2.2:=Iff.rfl
 rw [hd]
 cases hk:S k<;>simp [ay]
theorem Em:∀ {l:List Nat} {log log':kJ} {S M:Lk},dr C D all masks nx K l log S M->(∀q∈log',q∈log\/∃o,all[q.1]?=some o/\oH o=true)->dr C D all masks nx K l log' S M:=by
 intro l
 induction l with
 | nil=>intro log log' S M h _;exact h
 | cons i l ih =>
  intro log log' S M h hl
  obtain ⟨o,ho,hs,he,h⟩:=h
  refine ⟨o,ho,hs,he,fun e hre=>⟨fun q hq=>?_,ih (h e hre).2 ?_⟩⟩
  ·rcases hl q hq with h1|⟨o1,h1,h2⟩
   ·exact (h e hre).1 q h1
   ·intro _ _ o' ho' hsu
    rw [h1] at ho';cases ho'
    rw [(lK h2).2] at hsu;cases hsu
  ·intro q hq
   rcases List.mem_cons.1 hq with rfl|hq
   ·exact .inl (by simp)
   ·rcases hl q hq with h|h
    ·exact .inl (List.mem_cons_of_mem _ h)
    ·exact .inr h
theorem kX (o:aB) (e:HV×List Upd) (S:Lk) (t:Nat):jv o e S t=if o.dst=some t then e.1 else gI e.2 (S t):=by
 unfold jv;rw [tq]
theorem Bg {i j:Nat} {l:List Nat} {log:kJ} {S M:Lk} {oi oj:aB} (hoi:all[i]?=some oi) (hoj:all[j]?=some oj) (hx:oH oi=true) (hap:oP all oi oj=true) (h:dr C D all masks nx K (i::j::l) log S M):dr C D all masks nx K (j::i::l) log S M:=by
 obtain ⟨oi',hoi',si,⟨ei,ri⟩,hi⟩:=h
 rw [hoi] at hoi';cases hoi'
 have hxx:=hx
 obtain ⟨d,k,n,rfl⟩:=sQ hx
 obtain ⟨ap1,ap2,ap3⟩:=lH hap
 obtain ⟨cs,hk,hn,rfl⟩:=(pO si).1 ri
 obtain ⟨_,oj',hoj',sj,⟨ej0,rj0⟩,hj⟩:=hi _ ri
 rw [hoj] at hoj';cases hoj'
 have lj:∀t∈looks all oj,S t=jv ⟨d,.ext (.t k) n,none⟩ (cs.getD n .dead,[]) S t:=fun t ht=>by
  rw [kX,if_neg (fun e=>ap1 t e ht)];rfl
 have aj:oj.op.touch=false\/∀x∈iD oj S,M x=pV (cs.getD n .dead,[]) M x:=.inr fun _ _=>rfl
 have ej:=fun e=>mQ (D:=D) (fr:=nx+stride*j) (e:=e) lj aj
 have hkd:∀t,oj.dst=some t->t≠k:=fun t ht e=>ap3 t ht (by subst e;simp [looks,HOp.vals,slotsOf])
 refine ⟨oj,hoj,by rw [lI lj aj];exact sj,⟨ej0,by rw [ej];exact rj0⟩,fun e2 r2=>⟨?_,?_⟩⟩
 ·intro q hq a b o' ho' hs
  have:=(hj e2 (by rw [<- ej];exact r2)).1 q (List.mem_cons_of_mem _ hq) a b o' ho' hs
  rw [<- jl lj,<- jh lj] at this
  exact this
 ·have hk2:jv oj e2 S k=.tup (cs.map (gI e2.2)):=by
   rw [kX,if_neg (fun e=>hkd k e rfl),hk,kY]
  have si2:fA C D all (nx+stride*i) ⟨d,.ext (.t k) n,none⟩ (jv oj e2 S) (pV e2 M):=ext_side.2 ⟨_,hk2,by simpa using hn⟩
  refine ⟨_,hoi,si2,⟨_,(pO si2).2 ⟨_,hk2,by simpa using hn,rfl⟩⟩,fun e1 r1=>⟨?_,?_⟩⟩
  ·intro q hq a b o' ho' hs
   rw [(lK hxx).1] at hs;cases hs
  ·obtain ⟨cs2,hk3,hn2,rfl⟩:=(pO si2).1 r1
   rw [hk2] at hk3;cases hk3
   have hd:=(hj e2 (by rw [<- ej];exact r2)).2
   have eS:jv oj e2 (jv ⟨d,.ext (.t k) n,none⟩ (cs.getD n .dead,[]) S)=jv ⟨d,.ext (.t k) n,none⟩ ((cs.map (gI e2.2)).getD n .dead,[]) (jv oj e2 S):=by
    funext t
    simp only [kX]
    have hg:(cs.map (gI e2.2)).getD n .dead=gI e2.2 (cs.getD n .dead):=by
     simp only [List.getD_eq_getElem?_getD,List.getElem?_map,List.getElem?_eq_getElem hn,Option.map_some,Option.getD_some]
    by_cases h1:d=some t
    ·have:¬ oj.dst=some t:=ap2 t h1
     simp only [h1,this,if_true,if_false,hg,gI]
    ·simp only [h1,if_false,gI]
   rw [eS] at hd
   refine Em hd fun q hq=>?_
   simp only [List.mem_cons] at hq
   rcases hq with rfl|rfl|hq
   ·exact .inr ⟨_,hoi,hxx⟩
   ·rw [jl lj,jh lj];exact .inl (List.mem_cons_self ..)
   ·exact .inl (List.mem_cons_of_mem _ (List.mem_cons_of_mem _ hq))
theorem y9 {i j:Nat} {l:List Nat} {log:kJ} {S M:Lk} {oi oj:aB} (hoi:all[i]?=some oi) (hoj:all[j]?=some oj) (hx:oH oi=true) (hap:oP all oi oj=true) (h:dr C D all masks nx K (j::i::l) log S M):dr C D all masks nx K (i::j::l) log S M:=by
 obtain ⟨oj',hoj',sj,⟨ej0,rj0⟩,hj⟩:=h
 rw [hoj] at hoj';cases hoj'
 have hxx:=hx
 obtain ⟨d,k,n,rfl⟩:=sQ hx
 obtain ⟨ap1,ap2,ap3⟩:=lH hap
 have hkd:∀t,oj.dst=some t->t≠k:=fun t ht e=>ap3 t ht (by subst e;simp [looks,HOp.vals,slotsOf])
 have hk2:∀e2,jv oj e2 S k=gI e2.2 (S k):=fun e2=>by rw [kX,if_neg (fun e=>hkd k e rfl)]
 obtain ⟨_,oi',hoi',si0,_,_⟩:=hj ej0 rj0
 rw [hoi] at hoi';cases hoi'
 obtain ⟨cs0,hk0,hn0⟩:=ext_side.1 si0
 rw [hk2] at hk0
 obtain ⟨cs,hk⟩:=oL _ _ hk0
 rw [hk,kY] at hk0
 cases hk0
 have hn:n<cs.length:=by simpa using hn0
 have si:fA C D all (nx+stride*i) ⟨d,.ext (.t k) n,none⟩ S M:=ext_side.2 ⟨cs,hk,hn⟩
 refine ⟨_,hoi,si,⟨_,(pO si).2 ⟨cs,hk,hn,rfl⟩⟩,fun e1 r1=>⟨fun q hq a b o' ho' hs=>?_,?_⟩⟩
 ·rw [(lK hxx).1] at hs;cases hs
 ·obtain ⟨cs1,hk1,_,rfl⟩:=(pO si).1 r1
  rw [hk] at hk1;cases hk1
  have lj:∀t∈looks all oj,S t=jv ⟨d,.ext (.t k) n,none⟩ (cs.getD n .dead,[]) S t:=fun t ht=>by
   rw [kX,if_neg (fun e=>ap1 t e ht)];rfl
  have aj:oj.op.touch=false\/∀x∈iD oj S,M x=pV (cs.getD n .dead,[]) M x:=.inr fun _ _=>rfl
  have ej:=fun e=>mQ (D:=D) (fr:=nx+stride*j) (e:=e) lj aj
  refine ⟨oj,hoj,by rw [<- lI lj aj];exact sj,⟨ej0,by rw [<- ej];exact rj0⟩,fun e2 r2=>⟨?_,?_⟩⟩
  ·intro q hq a b o' ho' hs
   rcases List.mem_cons.1 hq with rfl|hq
   ·simp only at ho'
    rw [hoi] at ho';cases ho'
    rw [(lK hxx).2] at hs;cases hs
   ·have:=(hj e2 (by rw [ej];exact r2)).1 q hq a b o' ho' hs
    rw [jl lj,jh lj] at this
    exact this
  ·obtain ⟨_,oi',hoi',si2,_,hi⟩:=hj e2 (by rw [ej];exact r2)
   rw [hoi] at hoi';cases hoi'
   have hk3:jv oj e2 S k=.tup (cs.map (gI e2.2)):=by rw [hk2,hk,kY]
   have hd:=(hi _ ((pO si2).2 ⟨_,hk3,by simpa using hn,rfl⟩)).2
   have eS:jv oj e2 (jv ⟨d,.ext (.t k) n,none⟩ (cs.getD n .dead,[]) S)=jv ⟨d,.ext (.t k) n,none⟩ ((cs.map (gI e2.2)).getD n .dead,[]) (jv oj e2 S):=by
    funext t
    simp only [kX]
    have hg:(cs.map (gI e2.2)).getD n .dead=gI e2.2 (cs.getD n .dead):=by
     simp only [List.getD_eq_getElem?_getD,List.getElem?_map,List.getElem?_eq_getElem hn,Option.map_some,Option.getD_some]
    by_cases h1:d=some t
    ·have:¬ oj.dst=some t:=ap2 t h1
     simp only [h1,this,if_true,if_false,hg,gI]
    ·simp only [h1,if_false,gI]
   rw [<- eS] at hd
   refine Em hd fun q hq=>?_
   simp only [List.mem_cons] at hq
   rcases hq with rfl|rfl|hq
   ·rw [<- jl lj,<- jh lj];exact .inl (List.mem_cons_of_mem _ (List.mem_cons_self ..))
   ·exact .inr ⟨_,hoi,hxx⟩
   ·exact .inl (List.mem_cons_of_mem _ (List.mem_cons_of_mem _ hq))
theorem MB {X:Nat->Prop} {i j:Nat} {l:List Nat} {log:kJ} {S M:Lk} {oi oj:aB} (hij:i≠j) (hoi:all[i]?=some oi) (hoj:all[j]?=some oj) (hp:wZ all oi oj=true) (hli:kP oi=true) (hlj:kP oj=true)
  (hb1:nZ masks i j=false) (hb2:nZ masks j i=false) (hI:Inv nx X S M) (hXi:¬ X i) (hXj:¬ X j) (h:dr C D all masks nx K (i::j::l) log S M):dr C D all masks nx K (j::i::l) log S M:=by
 simp only [wZ,Bool.and_eq_true,Bool.or_eq_true,Bool.not_eq_true'] at hp
 obtain ⟨hap,(hx|hx)|⟨hki,hkj⟩⟩:=hp
 ·exact Bg hoi hoj hx hap h
 ·exact y9 hoj hoi hx (Az hap) h
 obtain ⟨oi',hoi',si,⟨ei0,ri0⟩,hi⟩:=h
 rw [hoi] at hoi';cases hoi'
 obtain ⟨ap1,ap2,ap3⟩:=lH hap
 have inI:∀x∈iD oi S,nY nx X x:=fun x hx=>innL_iff.1 (rP hI hli) x hx
 have inJ:∀x∈iD oj S,nY nx X x:=fun x hx=>innL_iff.1 (rP hI hlj) x hx
 have wt:∀o:aB,o.op.wrt=true->o.op.touch=true:=fun o=>by cases o.op<;>simp [HOp.wrt,HOp.touch]
 have lj:∀ei,gy D all (nx+stride*i) oi S M ei->∀t∈looks all oj,S t=jv oi ei S t:=fun ei re t ht=>by
  obtain ⟨_,_,_,f4⟩:=lT hI hli si re
  unfold jv
  rw [if_neg (fun e=>ap1 t e ht),jb (f4 hki)]
 have aj:∀ei,gy D all (nx+stride*i) oi S M ei->oj.op.touch=false\/∀c∈ng oj S,uK c M (pV ei M):=fun ei re=>by
  obtain ⟨_,_,f3,f4⟩:=lT hI hli si re
  obtain ⟨_,oj',hoj',sj,⟨ej0,rj0⟩,hj⟩:=hi ei re
  rw [hoj] at hoj';cases hoj'
  cases htj:oj.op.touch with
  | false=>exact .inl rfl
  | true =>
   right
   intro c hc
   have hx:=oW hc
   by_cases hxt:c / 2∈gK ei.2
   ·rcases f3 _ hxt with hr|⟨hw,_⟩
    ·exact absurd (lS (inJ _ hx) hr) hXi
    ·have hck:=((hj ej0 rj0).1 _ (List.mem_cons_self ..) hb1 hb2 oi hoi (by simp [su,hw,htj])).2
     by_cases hcw:c∈qW oi S ei.2
     ·exact absurd (by rw [<- jl (lj ei re)];exact hc) (hck c hcw)
     ·have hodd:c % 2=1:=by
       rcases Nat.mod_two_eq_zero_or_one c with h0|h0
       ·have:=ve (o:=oi) (S:=S) hxt
        rw [show 2*(c / 2)=c by omega] at this
        exact absurd this hcw
       ·exact h0
      have hd:=Ez (o:=oi) (S:=S) hxt (by rw [show 2*(c / 2)+1=c by omega];exact hcw)
      unfold uK
      rw [if_neg (by omega)]
      exact (zK si re hd (fun e=>hXi (lS (inJ _ hx) (by rw [e];unfold sK stride;omega)))).symm
   ·exact EE (jT hxt).symm
 obtain ⟨_,oj',hoj',sj,⟨ej0,rj0⟩,hj0⟩:=hi ei0 ri0
 rw [hoj] at hoj';cases hoj'
 have ej:∀ei,gy D all (nx+stride*i) oi S M ei->∀e,gy D all (nx+stride*j) oj S M e=gy D all (nx+stride*j) oj (jv oi ei S) (pV ei M) e:=fun ei re e=>oD (lj ei re) (aj ei re)
 have sj':fA C D all (nx+stride*j) oj S M:=by rw [sH (lj ei0 ri0) (aj ei0 ri0)];exact sj
 refine ⟨oj,hoj,sj',⟨ej0,by rw [ej ei0 ri0];exact rj0⟩,fun e2 r2=>⟨?_,?_⟩⟩
 ·intro q hq a b o' ho' hs
  have:=(hj0 e2 (by rw [<- ej ei0 ri0];exact r2)).1 q (List.mem_cons_of_mem _ hq) a b o' ho' hs
  rw [<- jl (lj ei0 ri0),<- jh (lj ei0 ri0)] at this
  exact this
 ·obtain ⟨_,_,g3,g4⟩:=lT hI hlj sj' r2
  have li:∀t∈looks all oi,S t=jv oj e2 S t:=fun t ht=>by
   unfold jv
   rw [if_neg (fun e=>ap3 t e ht),jb (g4 hkj)]
  have ai:oi.op.touch=false\/∀c∈ng oi S,uK c M (pV e2 M):=by
   cases hti:oi.op.touch with
   | false=>exact .inl rfl
   | true =>
    right
    intro c hc
    have hx:=oW hc
    by_cases hxt:c / 2∈gK e2.2
    ·rcases g3 _ hxt with hr|⟨hw,_⟩
     ·exact absurd (lS (inI _ hx) hr) hXj
     ·have hck:=((hj0 e2 (by rw [<- ej ei0 ri0];exact r2)).1 _ (List.mem_cons_self ..) hb1 hb2 oi hoi (by simp [su,hw,hti])).1
      rw [<- jh (lj ei0 ri0)] at hck
      by_cases hcw:c∈qW oj S e2.2
      ·exact absurd hc (hck c hcw)
      ·have hodd:c % 2=1:=by
        rcases Nat.mod_two_eq_zero_or_one c with h0|h0
        ·have:=ve (o:=oj) (S:=S) hxt
         rw [show 2*(c / 2)=c by omega] at this
         exact absurd this hcw
        ·exact h0
       have hd:=Ez (o:=oj) (S:=S) hxt (by rw [show 2*(c / 2)+1=c by omega];exact hcw)
       unfold uK
       rw [if_neg (by omega)]
       exact (zK sj' r2 hd (fun e=>hXj (lS (inI _ hx) (by rw [e];unfold sK stride;omega)))).symm
    ·exact EE (jT hxt).symm
  refine ⟨oi,hoi,by rw [<- sH li ai];exact si,⟨ei0,by rw [<- oD li ai];exact ri0⟩,fun e1 r1=>?_⟩
  rw [<- oD li ai] at r1
  obtain ⟨c1,oj',hoj',_,_,hj⟩:=hi e1 r1
  rw [hoj] at hoj';cases hoj'
  obtain ⟨d1,d2⟩:=hj e2 (by rw [<- ej e1 r1];exact r2)
  obtain ⟨_,_,f3,f4⟩:=lT hI hli si r1
  have eoi:=jl li
  have eoj:=jl (lj e1 r1)
  have ewi:=jh li e1.2
  have ewj:=jh (lj e1 r1) e2.2
  refine ⟨?_,?_⟩
  ·intro q hq a b o' ho' hs
   rcases List.mem_cons.1 hq with rfl|hq
   ·simp only at ho'
    rw [hoj] at ho';cases ho'
    have:=d1 _ (List.mem_cons_self ..) hb1 hb2 oi hoi (by rw [Hu];exact hs)
    simp only [<- eoj,<- ewj] at this
    simp only [<- eoi,<- ewi]
    exact ⟨this.2,this.1⟩
   ·have:=c1 q hq a b o' ho' hs
    rw [eoi,ewi] at this
    exact this
  ·have eS:jv oj e2 (jv oi e1 S)=jv oi e1 (jv oj e2 S):=by
    funext t
    unfold jv
    rw [jb (f4 hki),jb (g4 hkj),jb (g4 hkj),jb (f4 hki)]
    by_cases h1:oi.dst=some t
    ·have:¬ oj.dst=some t:=ap2 t h1
     simp [h1,this]
    ·simp [h1]
   have eM:pV e2 (pV e1 M)=pV e1 (pV e2 M):=by
    funext x
    unfold pV
    by_cases h1:x∈gK e1.2
    ·have h2:x ∉ gK e2.2:=fun h2=>by
      rcases f3 x h1 with a|⟨w1,a⟩<;>rcases g3 x h2 with b|⟨w2,b⟩
      ·exact hij (Eg a b)
      ·exact hXi (lS (inJ x b) a)
      ·exact hXj (lS (inI x a) b)
      ·have:=(d1 _ (List.mem_cons_self ..) hb1 hb2 oi hoi (by simp [su,w1,wt oj w2])).1 (2*x) (ve h2)
       simp only [Nc w1] at this
       exact this (List.mem_map_of_mem a)
     rw [jT h2]
     exact tY (.inl h1)
    ·rw [jT h1]
     by_cases h2:x∈gK e2.2
     ·exact tY (.inl h2)
     ·rw [jT h2,jT h1,jT h2]
   rw [<- eS,<- eM]
   refine PG d2 fun q hq=>?_
   simp only [<- eoi,<- eoj,<- ewi,<- ewj,List.mem_cons] at hq ⊢
   rcases hq with h|h|h
   ·exact .inr (.inl h)
   ·exact .inl h
   ·exact .inr (.inr h)
theorem Ag {j:Nat} {oj:aB} (hoj:all[j]?=some oj) (hlj:kP oj=true):∀ (l1 l2:List Nat) (X:Nat->Prop) (log:kJ) (S M:Lk),Inv nx X S M->¬ X j->(∀i∈l1,i≠j/\¬ X i/\∃oi,all[i]?=some oi/\kP oi=true/\wZ all oi oj=true/\nZ masks i j=false/\nZ masks j i=false)->l1.Nodup ->
  dr C D all masks nx K (l1++j::l2) log S M->dr C D all masks nx K (j::(l1++l2)) log S M:=by
 intro l1
 induction l1 with
 | nil=>intro l2 X log S M _ _ _ _ h;exact h
 | cons i l1 ih =>
  intro l2 X log S M hI hXj hl hnd h
  obtain ⟨hij,hXi,oi,hoi,hli,hp,hb1,hb2⟩:=hl i (by simp)
  refine MB hij hoi hoj hp hli hlj hb1 hb2 hI hXi hXj ?_
  obtain ⟨o,ho,hs,he,h⟩:=h
  rw [hoi] at ho;cases ho
  refine ⟨oi,hoi,hs,he,fun e re=>⟨(h e re).1,?_⟩⟩
  obtain ⟨f1,f2,_,_⟩:=lT hI hli hs re
  rw [List.nodup_cons] at hnd
  refine ih l2 (fun k=>X k\/k=i) _ _ _ (hI.step f1 f2) (fun hx=>hx.elim hXj fun e=>hij e.symm) (fun k hk=>?_) hnd.2 (h e re).2
  obtain ⟨a,b,c⟩:=hl k (by simp [hk])
  exact ⟨a,fun hx=>hx.elim b fun e=>hnd.1 (e▸hk),c⟩
end
end Go.HL
end
section
namespace Go.HL
open Go.RowKit
section
variable {E:Fr} {N:Nat} {S M:Lk} {loc:Nat->Value} {fp:Nat->List Nat} {a:Act} {w:World}
theorem OW.inn {F:Nat->Prop} {h:Hp} {R:HV->Value->Prop} {vs rvs fs} (o:OW F h R vs rvs fs) {p:Nat->Prop} (hp:∀v rv id,R v rv->dX v=some id->p id):innL p vs:=by
 induction o with
 | nil=>simp
 | @leaf R v rv r rr fs a b c d e f g _ ih =>
  have ih':=ih hp
  cases v<;>simp [fG] at a b c d e f
  ·simp only [aP,yB];exact ⟨hp _ _ _ g rfl,ih'⟩
  ·simp only [aP,sJ];exact ⟨hp _ _ _ g rfl,ih'⟩
  ·simpa using ih'
  ·simp only [aP,rX];exact ⟨hp _ _ _ g rfl,ih'⟩
  ·exact absurd rfl (c _ _ _ _ rfl rfl rfl)
 | int _ ih=>simpa using ih hp
 | bool _ ih=>simpa using ih hp
 | str _ ih=>simpa using ih hp
 | nils _ ih=>simpa using ih hp
 | nilp _ ih=>simpa using ih hp
 | nilf _ ih=>simpa using ih hp
 | dead _ ih=>simpa using ih hp
 | sl0 _ ih=>simpa using ih hp
 | sl a b c d _ _ ih1 ih2=>simp only [aP,IK];exact ⟨ih1 fun _ _ _ h=>h.elim,ih2 hp⟩
 | osl0 _ ih=>simpa using ih hp
 | osl a b c d e f _ _ ih1 ih2=>simp only [aP,qc];exact ⟨ih1 fun _ _ _ h=>h.elim,ih2 hp⟩
 | ptr a b c _ _ ih1 ih2=>simp only [aP,uS];exact ⟨ih1 fun _ _ _ h=>h.elim,ih2 hp⟩
 | optr a _ _ ih1 ih2=>simp only [aP,BO];exact ⟨ih1 fun _ _ _ h=>h.elim,ih2 hp⟩
 | nilm _ ih=>simpa using ih hp
 | rmap a b c _ _ ih1 ih2=>simp only [aP,vZ];exact ⟨ih1 fun _ _ _ h=>h.elim,ih2 hp⟩
 | omap a b _ _ ih1 ih2=>simp only [aP,mG];exact ⟨ih1 fun _ _ _ h=>h.elim,ih2 hp⟩
 | oitr _ _ ih=>simpa using ih hp
 | agg _ _ ih1 ih2=>simp only [aP,nJ];exact ⟨ih1 hp,ih2 hp⟩
 | tup _ _ ih1 ih2=>simp only [aP,qZ];exact ⟨ih1 hp,ih2 hp⟩
 | fn _ _ ih1 ih2=>simp only [aP,wI];exact ⟨ih1 hp,ih2 hp⟩
theorem OW.rn {F:Nat->Prop} {h:Hp} {R R':HV->Value->Prop} {vs rvs fs} (g:Nat->Nat) (o:OW F h R vs rvs fs) (hfs:fs=[]) (hl:∀v rv,R v rv->∃id,dX v=some id) (hr:∀v rv,R v rv->R' (v.rn g) rv):OW F h R' (LD g vs) rvs []:=by
 induction o with
 | nil=>exact .nil
 | @leaf R v rv r rr fs a b c d e f gg _ ih =>
  have ih':=ih hfs hl hr
  obtain ⟨id,hid⟩:=hl _ _ gg
  have h1:=hr _ _ gg
  have:(dX (v.rn g)).isSome=true:=by cases v<;>simp [dX] at hid<;>simp [HV.rn,dX]
  exact (dH this h1).cons1 ih'
 | int _ ih=>exact .int (ih hfs hl hr)
 | bool _ ih=>exact .bool (ih hfs hl hr)
 | str _ ih=>exact .str (ih hfs hl hr)
 | nils _ ih=>exact .nils (ih hfs hl hr)
 | nilp _ ih=>exact .nilp (ih hfs hl hr)
 | nilf _ ih=>exact .nilf (ih hfs hl hr)
 | dead _ ih=>exact .dead (ih hfs hl hr)
 | sl0 _ ih=>exact .sl0 (ih hfs hl hr)
 | sl a b c d e _ _ ih=>exact .sl a b c d e (ih hfs hl hr)
 | osl0 _ ih=>exact .osl0 (ih hfs hl hr)
 | osl=>simp at hfs
 | ptr a b c d _ _ ih=>exact .ptr a b c d (ih hfs hl hr)
 | optr=>simp at hfs
 | nilm _ ih=>exact .nilm (ih hfs hl hr)
 | rmap a b c d _ _ ih=>exact .rmap a b c d (ih hfs hl hr)
 | omap=>simp at hfs
 | oitr=>simp at hfs
 | agg _ _ ih1 ih2 =>
  obtain ⟨rfl,rfl⟩:_=[]/\_=[]:=by simpa using hfs
  exact .agg (ih1 rfl hl hr) (ih2 rfl hl hr)
 | tup _ _ ih1 ih2 =>
  obtain ⟨rfl,rfl⟩:_=[]/\_=[]:=by simpa using hfs
  exact .tup (ih1 rfl hl hr) (ih2 rfl hl hr)
 | fn _ _ ih1 ih2 =>
  obtain ⟨rfl,rfl⟩:_=[]/\_=[]:=by simpa using hfs
  exact .fn (ih1 rfl hl hr) (ih2 rfl hl hr)
theorem Rel.rename (hr:Rel E N S M loc fp a w) (g:Nat->Nat) (hg:∀x,g (g x)=x) (hN:∀x,x<N->g x<N):Rel E N (fun t=>(S t).rn g) (fun k=>M (g k)) (fun k=>loc (g k)) (fun k=>fp (g k)) a w:=by
 have inj:∀x y,g x=g y->x=y:=fun x y h=>by rw [<- hg x,<- hg y,h]
 have hfz:∀b,dW E fp w b->dW E (fun k=>fp (g k)) w b:=fun b ⟨h1,h2,h3⟩=>⟨h1,h2,fun k=>h3 (g k)⟩
 refine ⟨hr.below,hr.base,hr.size,fun id h=>(hr.tree (g id) h).stable (fun _ _=>rfl) (fun b hb=>⟨hfz b hb,rfl⟩) (fun _ _ h=>h),fun id h=>hr.gone (g id) h,fun id h=>hr.new (g id) ?_,fun id=>hr.nodup (g id),fun i j hij=>hr.apart (g i) (g j) (fun e=>hij (inj _ _ e)),fun id=>hr.fresh (g id),fun t=>?_,hr.defers⟩
 ·rcases Nat.lt_or_ge (g id) N with h'|h'
  ·have:=hN _ h'
   rw [hg] at this
   omega
  ·exact h'
 ·have:=(hr.slots t).rn (R':=RefR N (fun k=>M (g k)) (fun k=>loc (g k)) w.heap) g rfl (fun v rv h=>by obtain ⟨id,h1,_⟩:=h.isRef;exact ⟨id,h1⟩) (by
   intro v rv hv
   cases v<;>(try exact hv.elim)
   ·obtain ⟨a1,a2,a3,a4,a5⟩:=hv
    exact ⟨hN _ a1,a2,a3,by simp only [hg];exact a4,by simp only [hg];exact a5⟩
   ·obtain ⟨a1,a2,a3,a4⟩:=hv
    exact ⟨hN _ a1,a2,a3,by simp only [hg];exact a4⟩
   ·obtain ⟨a1,a2,a3,a4,a5⟩:=hv
    exact ⟨hN _ a1,a2,a3,by simp only [hg];exact a4,by simp only [hg];exact a5⟩)
  exact this.stable (by simp) (fun b hb=>⟨hfz b hb,rfl⟩) (fun _ _ h=>h)
def Lh (N0 f m x:Nat):Nat:=if N0<=x/\x<N0+m then x - N0+f else if f<=x/\x<f+m then x - f+N0 else x
theorem Mc {N0 f m:Nat} (h:f+m<=N0) (x:Nat):Lh N0 f m (Lh N0 f m x)=x:=by
 unfold Lh
 by_cases h1:N0<=x/\x<N0+m
 ·rw [if_pos h1,if_neg (by omega),if_pos (by omega)];omega
 ·rw [if_neg h1]
  by_cases h2:f<=x/\x<f+m
  ·rw [if_pos h2,if_pos (by omega)];omega
  ·rw [if_neg h2,if_neg h1,if_neg h2]
theorem Pv {N0 f m:Nat} (h:f+m<=N0) (x:Nat) (hx:x<N0+m):Lh N0 f m x<N0+m:=by
 unfold Lh;split
 ·omega
 ·split<;>omega
theorem OH {g:Nat->Nat} (hg:∀x,g (g x)=x):∀ (us:List Upd) (A B:Lk),(∀k,A (g k)=B k)->∀k,Lk.upd A us (g k)=Lk.upd B (us.map (zx g)) k:=by
 intro us
 induction us with
 | nil=>intro A B h k;exact h k
 | cons u us ih =>
  intro A B h k
  cases u with
  | put id t =>
   simp only [List.map_cons,zx,Lk.upd]
   refine ih _ _ (fun k=>?_) k
   by_cases hk:g k=id
   ·have:k=g id:=by rw [<- hk,hg]
    rw [if_pos hk,if_pos this]
   ·have:¬ k=g id:=fun e=>hk (by rw [e,hg])
    rw [if_neg hk,if_neg this]
    exact h k
  | kill id n=>exact ih A B h k
theorem MN {g:Nat->Nat} (hg:∀x,g (g x)=x) {us:List Upd} (hu:∀x∈gK us,g x=x) (hM:∀k,g k≠k->M k=.dead) (k:Nat):Lk.upd M us (g k)=Lk.upd M us k:=by
 by_cases hk:g k=k
 ·rw [hk]
 ·rw [jT fun h=>hk (hu k h),jT fun h=>by have:=hu _ h;rw [hg] at this;exact hk this.symm,hM k hk,hM (g k) (by rw [hg];exact fun e=>hk e.symm)]
end
end Go.HL
end
section
namespace Go.HL
open Go.RowKit
theorem HT.deep {P:Program} {f:FuncId} {args:List HV} {K:HV->Prop} (h:HT P f args K):HT P f args fun r=>K r/\r.deep=[] :=
 ⟨h.1,fun w rargs F hF hargs=>(h.2 w rargs F hF hargs).mono fun _ _ ⟨rv,res,fs,h1,h2,h3,h4⟩=>⟨rv,res,fs,h1,⟨h2,by
  have:=h3.inn (p:=fun _=>False) (fun _ _ _ h=>h.elim)
  simp only [aP,Bh,and_true] at this
  exact List.eq_nil_iff_forall_not_mem.2 fun x hx=>this x hx⟩,h3,h4⟩⟩
theorem HT.imp {P:Program} {f:FuncId} {args:List HV} {K K':HV->Prop} (h:HT P f args K) (hk:∀r,K r->K' r):HT P f args K' :=
 ⟨h.1,fun w rargs F hF hargs=>(h.2 w rargs F hF hargs).mono fun _ _ ⟨rv,res,fs,h1,h2,h3⟩=>⟨rv,res,fs,h1,hk _ h2,h3⟩⟩
section
variable {P:Program} {E:Fr} {N:Nat} {S M:Lk} {loc:Nat->Value} {fp:Nat->List Nat} {a:Act} {w:World} {D:FuncId->List HV->HV->Prop} {nx i:Nat}
theorem PI {g:Nat->Nat} (hg:∀x,g (g x)=x) (hN:∀x,x<N->g x<N) {o:aB} {us0 uF:List Upd} {v:HV} (hr:Rel E N (fun t=>if o.dst=some t then v else pg S (us0++uF) t) (Lk.upd M (us0++uF)) loc fp a w)
  (hS:∀t,(S t).inn fun x=>g x=x) (hM:∀k,g k≠k->M k=.dead) (hu:∀x∈gK us0,g x=x) (hF:∀u∈uF,∃id t,u=.put id t) :
  ∃N' loc' fp',Rel E N' (jv o (v.rn g,us0++uF.map (zx g)) S) (pV (v.rn g,us0++uF.map (zx g)) M) loc' fp' a w:=by
 have h:=hr.rename g hg hN
 refine ⟨N,fun k=>loc (g k),fun k=>fp (g k),?_⟩
 have e1:(fun t=>(if o.dst=some t then v else pg S (us0++uF) t).rn g)=jv o (v.rn g,us0++uF.map (zx g)) S:=by
  funext t
  unfold jv
  have hF':∀u∈uF.map (zx g),∃id t,u=.put id t:=fun u hu=>by
   obtain ⟨u',h1,rfl⟩:=List.mem_map.1 hu
   obtain ⟨id,t,rfl⟩:=hF u' h1
   exact ⟨_,_,rfl⟩
  by_cases hd:o.dst=some t
  ·simp only [hd,if_true]
  ·simp only [hd,if_false]
   rw [fO,fO,jb hF,jb hF']
   exact HV.rn_id g _ (Ey hS t)
 have e2:(fun k=>Lk.upd M (us0++uF) (g k))=pV (v.rn g,us0++uF.map (zx g)) M:=by
  funext k
  unfold pV
  rw [eH,eH]
  exact OH hg uF _ _ (fun k=>MN hg hu hM k) k
 rw [<- e1,<- e2]
 exact h
theorem yl {ops:Array Oper} {o:Oper} (ho:ops[i]?=some o) {X:Nat->Prop} (hr:Rel E N S M loc fp a w) (hI:Inv nx X S M) (hX:¬ X i) (hl:kP (bn P E.ok o)=true)
  (hs:fA (HT P) D (ops.toList.map (bn P E.ok)) (nx+stride*i) (bn P E.ok o) S M) {Kw:Act->World->Prop} {Q:Exit->Act->World->Prop}
  (hn:∀e a' w',gy D (ops.toList.map (bn P E.ok)) (nx+stride*i) (bn P E.ok o) S M e->(∃N' loc' fp',Rel E N' (jv (bn P E.ok o) e S) (pV e M) loc' fp' a' w')->Kw a' w'):wpOp P ops Q i Kw a w:=by
 have hgd:(bn P E.ok o).guard=o.guard:=rfl
 have hdst:(bn P E.ok o).dst=o.dst:=rfl
 have bool:∀ {d:Nat} {b:Bool},S d=.bool b->a.tmps[d]?=some (.bool b):=fun {d b} hb=>by
  have h1:=hr.slots d
  rw [hb] at h1
  have h3:=of_bool h1
  cases h4:a.tmps[d]? with
  | none=>rw [Array.getD_eq_getD_getElem?,h4] at h3;simp [undef] at h3
  | some v=>rw [Array.getD_eq_getD_getElem?,h4] at h3;simpa using h3
 have hw:∀b,gd (ops.toList.map (bn P E.ok)) (bn P E.ok o) S=some b->Region.wanted o (yielded ops a.tmps)=b:=by
  intro b hb
  unfold gd at hb
  rw [hgd] at hb
  unfold Region.wanted
  cases hg:o.guard with
  | none=>rw [hg] at hb;simpa using hb
  | some jw =>
   obtain ⟨j,want⟩:=jw
   rw [hg] at hb
   simp only [List.getElem?_map,Option.bind_map] at hb
   have hall:((ops.toList[j]?).bind ((fun x=>x.dst) ∘ bn P E.ok))=((ops[j]?).bind (·.dst)):=by rw [Array.getElem?_toList];rfl
   rw [hall] at hb
   cases hd:(ops[j]?).bind (·.dst) with
   | none=>rw [hd] at hb;simp at hb
   | some d =>
    rw [hd] at hb
    simp only [Option.map_some] at hb
    generalize hv:S d=v at hb
    cases v with
    | bool c =>
     simp only at hb
     have hy:yielded ops a.tmps j=some c:=by
      unfold yielded
      rw [hd]
      simp only [Option.bind_some,bool hv]
     simp only [hy]
     cases c<;>cases want<;>cases b<;>simp_all
    | tup cs =>
     cases cs with
     | cons _ _=>simp at hb
     | nil =>
      simp only [Option.some.injEq] at hb
      subst hb
      have hy:yielded ops a.tmps j=none:=by
       have h1:=hr.slots d
       rw [hv] at h1
       have h3:=BP h1
       unfold yielded
       rw [hd]
       simp only [Option.bind_some]
       cases h4:a.tmps[d]? with
       | none=>rfl
       | some v=>rw [Array.getD_eq_getD_getElem?,h4] at h3;simp at h3;rw [h3];rfl
      simp [hy]
    | _=>simp at hb
 unfold fA at hs
 unfold wpOp
 rw [ho]
 simp only
 cases hgv:gd (ops.toList.map (bn P E.ok)) (bn P E.ok o) S with
 | none=>rw [hgv] at hs;exact hs.elim
 | some b =>
  rw [hgv] at hs
  rw [hw b hgv]
  cases b with
  | false =>
   simp only [Bool.false_eq_true,if_false]
   exact hn (.tup [],[]) _ _ (by unfold gy;rw [hgv]) ⟨N,loc,fp,hr.putU o.dst⟩
  | true =>
   simp only [if_true]
   simp only at hs
   left
   let N0:=max N (nx+stride*(i+1))
   let f:=nx+stride*i
   have hf0:f+stride<=N0:=by simp only [f,N0,stride];omega
   have hNN:N<=N0:=by simp only [N0];omega
   let g:=Lh N0 f stride
   have hg:∀x,g (g x)=x:=Mc hf0
   have hgN:∀x,x<N0+stride->g x<N0+stride:=Pv hf0
   have gid:∀x,x<N0->¬ sK nx i x->g x=x:=fun x h1 h2=>by
    simp only [g,Lh]
    rw [if_neg (by omega),if_neg (fun h=>h2 ⟨h.1,by simp only [f,stride] at *;omega⟩)]
   have hS:∀t,(S t).inn fun x=>g x=x:=fun t x hx=>by
    have h1:=(hr.slots t).inn (p:=fun x=>x<N) (fun v rv id h hid=>by cases v<;>simp only [dX,Option.some.injEq,reduceCtorEq] at hid<;>subst hid<;>exact h.1)
    simp only [aP] at h1
    exact gid x (Nat.lt_of_lt_of_le (h1.1 x hx) hNN) fun hr'=>hX (lS (hI.slots t x hx) hr')
   have hM:∀k,g k≠k->M k=.dead:=fun k hk=>by
    rcases Nat.lt_or_ge k N with h|h
    ·by_cases h2:sK nx i k
     ·cases hd:M k with
      | dead=>rfl
      | _=>exact absurd (lS (hI.alive k (by rw [hd];simp)) h2) hX
     ·exact absurd (gid k (by omega) h2) hk
    ·exact hr.new k h
   have hMi:∀id,(M id).inn fun x=>g x=x:=fun id=>by
    by_cases h:M id=.dead
    ·rw [h];simp
    ·have:=(hr.tree id h).inn (p:=fun x=>g x=x) (fun _ _ _ h=>h.elim)
     simpa using this
   have hvals:innL (fun x=>g x=x) ((bn P E.ok o).op.map (dN S)).vals:=by
    rw [HOp.vals_map]
    intro v hv
    obtain ⟨x,hx,rfl⟩:=List.mem_map.1 hv
    cases x with
    | t i=>exact hS i
    | c v =>
     simp only [kP,Bool.and_eq_true,List.all_eq_true] at hl
     have:=hl.2 _ hx
     simp only [List.isEmpty_iff] at this
     intro y hy
     simp only [dN,this] at hy
     cases hy
   have hlits:innL (fun x=>g x=x) ((bn P E.ok o).op.map (dN S)).lits:=by
    rw [HOp.lits_map,innL_iff]
    simp only [kP,Bool.and_eq_true,List.isEmpty_iff] at hl
    rw [hl.1]
    simp
   have hres:∀e,nC D M f e ((bn P E.ok o).op.map (dN S))->gy D (ops.toList.map (bn P E.ok)) f (bn P E.ok o) S M e:=fun e h=>by unfold gy;rw [hgv];exact h
   by_cases hd:(o.dst.all fun d=>E.ok d)=true
   case neg =>
    have hop0:(bn P E.ok o).op=.bad:=by simp only [bn,hd];rfl
    rw [hop0] at hs
    exact hs.elim
   have hop0:(bn P E.ok o).op=aU P o:=by simp only [bn,hd,if_true]
   have hdt:∀t,o.dst=some t->E.ok t=true:=fun t ht=>by simpa [ht] using hd
   rw [hop0] at hs hvals hlits hres
   have done:∀ {us0 uF:List Upd} {v:HV} {rv:Value} {w':World} {N1:Nat},N1<=N0+stride->After E N1 S M (us0++uF) v rv a w'->(∀x∈gK us0,g x=x)->(∀u∈uF,∃id t,u=.put id t)->nC D M f (v.rn g,us0++uF.map (zx g)) ((aU P o).map (dN S))->Kw (a.put o.dst rv) w':=by
    intro us0 uF v rv w' N1 hN1 hA h1 h2 h3
    obtain ⟨loc',fp',h4,h5⟩:=hA
    have h6:=(h4.put o.dst hdt h5).up hN1
    exact hn _ _ _ (hres _ h3) (PI (o:=bn P E.ok o) hg hgN h6 hS hM h1 h2)
   have plain:(aU P o).isCall=false->(ay M f ((aU P o).map (dN S))).2.2->(∀e,nC D M f e ((aU P o).map (dN S)) <-> e=((ay M f ((aU P o).map (dN S))).1,(ay M f ((aU P o).map (dN S))).2.1))->o.wp P a w Kw Q:=by
    intro hnc hvc hce
    obtain ⟨us0,a1,a2,a3,a4⟩:=vG (L:=M) (D:=bf ((aU P o).map (dN S)).vals) hvals (fun x hx=>hx) hlits hMi
    have ht:∀x∈gK us0,g x=x:=by
     intro x hx
     clear a2 a3 a4
     induction us0 with
     | nil=>cases hx
     | cons u us ih =>
      have ih:=ih (fun u hu=>a1 u (by simp [hu]))
      cases u with
      | put id t =>
       simp only [gK,List.mem_cons] at hx
       rcases hx with rfl|hx
       ·exact innL_iff.1 hvals _ (a1 (.put x t) (by simp)).1
       ·exact ih hx
      | kill=>exact ih hx
    have key:∃v uF,(ay M N0 ((aU P o).map (dN S))).1=v/\(ay M N0 ((aU P o).map (dN S))).2.1=us0++uF/\(ay M N0 ((aU P o).map (dN S))).2.2/\(∀u∈uF,∃id t,u=.put id t)/\nC D M f (v.rn g,us0++uF.map (zx g)) ((aU P o).map (dN S)):=by
     have gN:g N0=f:=by simp only [g,Lh,stride];rw [if_pos (by omega)];omega
     rcases a4 with ⟨v,q,h1,h2⟩|⟨mk,T,q,h0,h1,h2⟩
     ·rw [h2] at hvc
      refine ⟨v,[],by rw [h2],by rw [h2];simp,by rw [h2];exact hvc,by simp,(hce _).2 ?_⟩
      rw [h2,HV.rn_id g v h1];simp
     ·rw [h2] at hvc
      refine ⟨mk N0,[.put N0 T],by rw [h2],by rw [h2],by rw [h2];exact hvc,by simp,(hce _).2 ?_⟩
      rw [h2]
      rcases h0 with ⟨sz,n,rfl⟩|rfl|rfl
      ·simp [HV.rn,zx,gN]
      ·simp [HV.rn,zx,gN]
      ·simp [HV.rn,zx,gN]
    obtain ⟨v,uF,k1,k2,k3,k4,k5⟩:=key
    obtain ⟨rv,w',h1,h2⟩:=Bc hr hNN o hnc k3
    rw [k1,k2] at h2
    have:=done (by unfold stride;omega) h2 ht k4 k5
    unfold Oper.wp
    rcases h1 with h1|⟨h1,rfl⟩
    ·rw [h1];exact this
    ·rw [h1];exact this
   have callgen:∀ (fn:FuncId) (vs:List HV) (rvs:List Value),(execOp a.eval o).run P w=(callFunc fn rvs.toArray).run P w->OW (dW E fp w) w.heap (RefR N M loc w.heap) vs rvs [] ->
     (HT P fn (dO dD M vs) (D fn (dO dD M vs))/\∀r,D fn (dO dD M vs) r->r.deep=[]->(aX vs || r.noRd)=true/\(unpack f r).2.2<=f+stride) ->
     (∀r,D fn (dO dD M vs) r->r.deep=[]->nC D M f ((unpack f r).1,(unpack f r).2.1) ((aU P o).map (dN S)))->o.wp P a w Kw Q:=by
    intro fn vs rvs hrun hv hC hce
    unfold Oper.wp
    rw [hrun,mX hC.1.1,Oper.upon_enter]
    have hC':=(hC.1.deep).imp (K':=fun r=>(aX vs || r.noRd)=true/\(D fn (dO dD M vs) r/\r.deep=[])) fun r hr'=>⟨(hC.2 r hr'.1 hr'.2).1,hr'⟩
    refine (wS hr hNN hv hC').mono ?_
    rintro e w' ⟨rv,res,rfl,⟨hK,hdp⟩,_,hA⟩
    obtain ⟨u1,u2,u3,u4,u5⟩:=tN g res N0 f hdp
    have hb:=(hC.2 res hK hdp).2
    obtain ⟨e1,e2⟩:=u3 fun k h1 h2=>by simp only [g,Lh];rw [if_pos (by omega)]
    refine done (us0:=[]) (by omega) hA (by simp [gK]) (fun u hu=>by obtain ⟨id,t,rfl,_⟩:=u5 u hu;exact ⟨_,_,rfl⟩) ?_
    have:=hce res hK hdp
    rw [e1,e2] at this
    exact this
   cases hop':aU P o with
   | call fn xs =>
    rw [hop'] at hs
    simp only [HOp.map] at hs
    obtain ⟨c,hc,hcal,rfl⟩:=sZ hop'
    refine callgen fn (c.args.toList.map fun x=>dN S (eu x)) (c.args.toList.map a.eval) ?_ (hr.vals _) (by rw [List.map_map] at hs;exact hs) (fun r h1 h2=>?_)
    ·have e1:(#[]:Array Value)++c.args.map a.eval++#[]=(c.args.toList.map a.eval).toArray:=by apply Array.ext';simp
     have e2:a.eval (.func fn)=.func (.func fn) #[] #[]:=rfl
     simp only [execOp,hc,resolve,hcal,e2,Deferred.ofValue,Sem.run_bind,Sem.run_pure,Result.andThen_ok,invoke,e1]
    ·rw [hop']
     exact ⟨r,by rw [List.map_map];exact h1,h2,rfl⟩
   | callv x xs =>
    rw [hop'] at hs
    simp only [HOp.map] at hs
    obtain ⟨c,t,hc,hcal,rfl,rfl⟩:=qM hop'
    have hval:=hr.val (.tmp t)
    simp only [eu] at hval
    rw [hop'] at callgen
    simp only [HOp.map] at callgen
    generalize dN S (.t t)=fv at *
    cases fv<;>simp only [kZ,ay] at hs<;>(first|exact hs.elim|skip)
    rename_i fn cap
    obtain ⟨rcap,hfe,hcap⟩:=zN hval
    have hv:=(hr.vals c.args.toList).append hcap
    simp only [List.append_nil] at hv
    refine callgen fn (c.args.toList.map (fun x=>dN S (eu x))++cap) (c.args.toList.map a.eval++rcap) ?_ hv (by rw [List.map_map] at hs;exact hs) (fun r h1 h2=>?_)
    ·have e1:(#[]:Array Value)++c.args.map a.eval++rcap.toArray=(c.args.toList.map a.eval++rcap).toArray:=by apply Array.ext';simp
     simp only [execOp,hc,resolve,hcal,hfe,Deferred.ofValue,Sem.run_bind,Sem.run_pure,Result.andThen_ok,invoke,e1]
    ·exact ⟨r,by rw [List.map_map];exact h1,h2,rfl⟩
   | _ =>
    rw [hop'] at hs
    rw [hop'] at plain
    exact plain rfl hs (fun e=>Iff.rfl)
end
end Go.HL
end
section
namespace Go.HL
open Go.RowKit
def qy (ms:List Nat):List Edge->Nat
 | []=>0
 | e::r=>(if Region.binds .any e then 2 ^ e.on ||| ms.getD e.on 0 else 0) ||| qy ms r
def kV:List Oper->List Nat->List Nat
 | [],ms=>ms
 | o::r,ms=>kV r (ms++[qy ms o.after.toList])
def fH (ops:Array Oper):List Nat:=kV ops.toList []
theorem uu:∀ (r:List Oper) (ms:List Nat),∃t,kV r ms=ms++t:=by
 intro r
 induction r with
 | nil=>intro ms;exact ⟨[],by simp [kV]⟩
 | cons o r ih =>
  intro ms
  obtain ⟨t,h⟩:=ih (ms++[qy ms o.after.toList])
  exact ⟨qy ms o.after.toList::t,by rw [kV,h];simp⟩
theorem wX:∀ (r:List Oper) (ms:List Nat) (i:Nat) (o:Oper),r[i]?=some o->∃ms',(∃t,kV r ms=ms'++t)/\ms'.length=ms.length+i/\(kV r ms).getD (ms.length+i) 0=qy ms' o.after.toList:=by
 intro r
 induction r with
 | nil=>intro ms i o h;simp at h
 | cons q r ih =>
  intro ms i o h
  cases i with
  | zero =>
   simp at h
   subst h
   obtain ⟨t,ht⟩:=uu r (ms++[qy ms q.after.toList])
   refine ⟨ms,uu _ _,rfl,?_⟩
   rw [kV,ht]
   simp [List.getD]
  | succ i =>
   simp only [List.getElem?_cons_succ] at h
   obtain ⟨ms',h1,h2,h3⟩:=ih (ms++[qy ms q.after.toList]) i o h
   refine ⟨ms',h1,by rw [h2];simp;omega,?_⟩
   rw [kV,<- h3]
   congr 1
   simp;omega
theorem yg (ms:List Nat):∀ (l:List Edge) (k:Nat),(qy ms l).testBit k=true <-> ∃e∈l,Region.binds .any e=true/\(e.on=k\/(ms.getD e.on 0).testBit k=true):=by
 intro l
 induction l with
 | nil=>intro k;simp [qy]
 | cons e r ih =>
  intro k
  simp only [qy,Nat.testBit_or,Bool.or_eq_true,ih,List.mem_cons,exists_eq_or_imp]
  cases hb:Region.binds .any e with
  | false=>simp
  | true=>simp [Nat.testBit_or,Nat.testBit_two_pow]
theorem Ci {ops:Array Oper} {i:Nat} {o:Oper} (ho:ops[i]?=some o) {e:Edge} (he:e∈o.after) (hb:Region.binds .any e=true):nZ (fH ops) e.on i=true:=by
 obtain ⟨ms',_,_,h⟩:=wX ops.toList [] i o (by simpa using ho)
 unfold nZ fH
 simp only [List.length_nil,Nat.zero_add] at h
 rw [h,yg]
 exact ⟨e,by simpa using he,hb,.inl rfl⟩
theorem jy {ops:Array Oper} {i k:Nat} {o:Oper} (ho:ops[i]?=some o) (h:nZ (fH ops) k i=true):∃e∈o.after,Region.binds .any e=true/\(e.on=k\/nZ (fH ops) k e.on=true):=by
 obtain ⟨ms',⟨t,h1⟩,h2,h3⟩:=wX ops.toList [] i o (by simpa using ho)
 unfold nZ fH at *
 simp only [List.length_nil,Nat.zero_add] at h3 h2
 rw [h3,yg] at h
 obtain ⟨e,he,hb,h⟩:=h
 refine ⟨e,by simpa using he,hb,h.imp id fun h=>?_⟩
 rw [h1]
 have:(ms'.getD e.on 0)=((ms'++t).getD e.on 0):=by
  rcases Nat.lt_or_ge e.on ms'.length with hl|hl
  ·simp [List.getD,List.getElem?_append_left hl]
  ·simp [List.getD,List.getElem?_eq_none hl] at h
 rw [<- this];exact h
section
variable {E:Fr} {N:Nat} {S M:Lk} {loc:Nat->Value} {fp:Nat->List Nat} {a:Act} {w:World}
theorem OW.lower {F:Nat->Prop} {h:Hp} {R R':HV->Value->Prop} {vs rvs fs} (o:OW F h R vs rvs fs) {p:Nat->Prop} (hfs:fs=[]) (hp:innL p vs) (hl:∀v rv,R v rv->∃id,dX v=some id) (hr:∀v rv id,R v rv->dX v=some id->p id->R' v rv):OW F h R' vs rvs []:=by
 induction o with
 | nil=>exact .nil
 | @leaf R v rv r rr fs a b c d e f gg _ ih =>
  simp only [aP] at hp
  have ih':=ih hfs hp.2 hl hr
  obtain ⟨id,hid⟩:=hl _ _ gg
  have:(dX v).isSome=true:=by rw [hid];rfl
  refine (dH this (hr _ _ id gg hid ?_)).cons1 ih'
  have:=hp.1
  cases v<;>simp [dX] at hid<;>subst hid<;>simpa using this
 | int _ ih=>simp only [aP] at hp;exact .int (ih hfs hp.2 hl hr)
 | bool _ ih=>simp only [aP] at hp;exact .bool (ih hfs hp.2 hl hr)
 | str _ ih=>simp only [aP] at hp;exact .str (ih hfs hp.2 hl hr)
 | nils _ ih=>simp only [aP] at hp;exact .nils (ih hfs hp.2 hl hr)
 | nilp _ ih=>simp only [aP] at hp;exact .nilp (ih hfs hp.2 hl hr)
 | nilf _ ih=>simp only [aP] at hp;exact .nilf (ih hfs hp.2 hl hr)
 | dead _ ih=>simp only [aP] at hp;exact .dead (ih hfs hp.2 hl hr)
 | sl0 _ ih=>simp only [aP] at hp;exact .sl0 (ih hfs hp.2 hl hr)
 | sl a b c d e _ _ ih=>simp only [aP] at hp;exact .sl a b c d e (ih hfs hp.2 hl hr)
 | osl0 _ ih=>simp only [aP] at hp;exact .osl0 (ih hfs hp.2 hl hr)
 | osl=>simp at hfs
 | ptr a b c d _ _ ih=>simp only [aP] at hp;exact .ptr a b c d (ih hfs hp.2 hl hr)
 | optr=>simp at hfs
 | nilm _ ih=>simp only [aP] at hp;exact .nilm (ih hfs hp.2 hl hr)
 | rmap a b c d _ _ ih=>simp only [aP] at hp;exact .rmap a b c d (ih hfs hp.2 hl hr)
 | omap=>simp at hfs
 | oitr=>simp at hfs
 | agg _ _ ih1 ih2 =>
  simp only [aP,nJ] at hp
  obtain ⟨rfl,rfl⟩:_=[]/\_=[]:=by simpa using hfs
  exact .agg (ih1 rfl hp.1 hl hr) (ih2 rfl hp.2 hl hr)
 | tup _ _ ih1 ih2 =>
  simp only [aP,qZ] at hp
  obtain ⟨rfl,rfl⟩:_=[]/\_=[]:=by simpa using hfs
  exact .tup (ih1 rfl hp.1 hl hr) (ih2 rfl hp.2 hl hr)
 | fn _ _ ih1 ih2 =>
  simp only [aP,wI] at hp
  obtain ⟨rfl,rfl⟩:_=[]/\_=[]:=by simpa using hfs
  exact .fn (ih1 rfl hp.1 hl hr) (ih2 rfl hp.2 hl hr)
theorem Rel.lower (hr:Rel E N S M loc fp a w) {N':Nat} (hS:∀t,(S t).inn (·<N')) (hM:∀id,M id≠.dead->id<N'):Rel E N' S M loc fp a w :=
 ⟨hr.below,hr.base,hr.size,hr.tree,hr.gone,fun id h=>by
  cases hd:M id with
  | dead=>rfl
  | _=>have:=hM id (by rw [hd];simp);omega,hr.nodup,hr.apart,hr.fresh,fun t=>(hr.slots t).lower (p:=(·<N')) rfl (by simpa using hS t) (fun v rv h=>by obtain ⟨id,h1,_⟩:=h.isRef;exact ⟨id,h1⟩) (fun v rv id h hid hp=>by
   cases v<;>simp only [dX,Option.some.injEq,reduceCtorEq] at hid<;>subst hid
   ·exact ⟨hp,h.2⟩
   ·exact ⟨hp,h.2⟩
   ·exact ⟨hp,h.2⟩),hr.defers⟩
theorem Rel.drew (hr:Rel E N S M loc fp a w) (n:Nat):Rel E N S M loc fp a { w with drawn:=n }:=by
 have hb:=hr.below
 exact ⟨⟨hb.os,hb.tape,hb.output,hb.size,hb.block⟩,hr.base,hr.size,hr.tree,hr.gone,hr.new,hr.nodup,hr.apart,hr.fresh,hr.slots,hr.defers⟩
theorem Rel.inv (hr:Rel E N S M loc fp a w):Inv N (fun _=>False) S M:=by
 refine ⟨fun t x hx=>.inl ?_,fun id x hx=>?_,fun id hid=>.inl ?_⟩
 ·have h1:=(hr.slots t).inn (p:=fun x=>x<N) (fun v rv id h hid=>by cases v<;>simp only [dX,Option.some.injEq,reduceCtorEq] at hid<;>subst hid<;>exact h.1)
  simp only [aP] at h1
  exact h1.1 x hx
 ·by_cases h:M id=.dead
  ·rw [h] at hx;cases hx
  ·have:=(hr.tree id h).inn (p:=fun _=>False) (fun _ _ _ h=>h.elim)
   simp only [aP] at this
   exact (this.1 x hx).elim
 ·rcases Nat.lt_or_ge id N with h|h
  ·exact h
  ·exact absurd (hr.new id h) hid
end
section
variable {P:Program} {E:Fr} {ops:Array Oper} {D:FuncId->List HV->HV->Prop} {nx:Nat} {K:Lk->Lk->Prop} {Q:Exit->Act->World->Prop}
theorem jg {masks:List Nat} {all:List aB} (h:lZ masks all=true) {i:Nat} {o:aB} (ho:all[i]?=some o):masks.getD i 0<2 ^ i/\kP o=true/\∀k,k<i->∀q,all[k]?=some q->nZ masks k i=false->wZ all q o=true:=by
 have hlt:=(List.getElem?_eq_some_iff.1 ho).1
 simp only [lZ,List.all_eq_true,List.mem_range] at h
 have:=h i hlt
 rw [ho] at this
 simp only [Ii,Bool.and_eq_true,decide_eq_true_eq,List.all_eq_true,List.mem_range,Bool.or_eq_true] at this
 refine ⟨this.1.1,this.1.2,fun k hk q hq hb=>?_⟩
 rcases this.2 k hk with h|h
 ·rw [hb] at h;cases h
 ·rw [hq] at h;exact h
theorem G9 {all:List aB} (hall:all=ops.toList.map (bn P E.ok)) (hst:lZ (fH ops) all=true) (hQ:∀X S M N loc fp a w,Inv nx X S M->(∀k,X k->k<ops.size)->Rel E N S M loc fp a w->K S M->Q .normal a w) :
  ∀ (fuel:Nat) (listed:Array Bool) (rem:List Nat) (log:kJ) (S M:Lk) (N:Nat) (loc:Nat->Value) (fp:Nat->List Nat) (a:Act) (w:World),listed.size=ops.size->rem=(List.range ops.size).filter (fun i=>listed.getD i true==false)->rem.length<=fuel ->
   (∀i o,ops[i]?=some o->listed.getD i false=true->∀e∈o.after,Region.binds .any e=true->listed.getD e.on false=true) ->
   dr (HT P) D all (fH ops) nx K rem log S M->Inv nx (fun k=>listed.getD k false=true) S M->Rel E N S M loc fp a w->wpAny P .any ops Q fuel listed a w:=by
 have atH:∀i o,ops[i]?=some o->all[i]?=some (bn P E.ok o):=fun i o h=>by rw [hall,List.getElem?_map,Array.getElem?_toList,h];rfl
 intro fuel
 induction fuel with
 | zero =>
  intro listed rem log S M N loc fp a w hsz hrem hfu hcl hdr hI hr
  have hnil:rem=[]:=List.eq_nil_of_length_eq_zero (by omega)
  subst hnil
  refine ⟨?_,hQ _ S M N loc fp a w hI (fun k hk=>?_) hr hdr⟩
  ·refine List.eq_nil_iff_forall_not_mem.2 fun i hi=>?_
   obtain ⟨h1,o,ho,_⟩:=mem_ready.1 hi
   have:i∈(List.range ops.size).filter (fun i=>listed.getD i true==false):=by
    rw [List.mem_filter,List.mem_range]
    exact ⟨(Array.getElem?_eq_some_iff.1 ho).1,by simpa using h1⟩
   rw [<- hrem] at this;cases this
  ·rcases Nat.lt_or_ge k listed.size with h|h
   ·omega
   ·simp [Array.getElem?_eq_none h] at hk
 | succ fuel ih =>
  intro listed rem log S M N loc fp a w hsz hrem hfu hcl hdr hI hr
  have mem:∀i,i∈rem <-> i<ops.size/\listed.getD i true=false:=fun i=>by rw [hrem,List.mem_filter,List.mem_range];simp
  have sorted:rem.Pairwise (·<·):=by rw [hrem];exact List.pairwise_lt_range.filter _
  have lst:∀i,i<ops.size->listed.getD i true≠false->listed.getD i false=true:=fun i hi h=>by
   have hi':i<listed.size:=by omega
   simp only [Array.getD_eq_getD_getElem?,Array.getElem?_eq_getElem hi',Option.getD_some] at h ⊢
   simpa using h
  have lst':∀i,listed.getD i false=true->listed.getD i true≠false:=fun i h=>by
   have hi':i<listed.size:=by
    rcases Nat.lt_or_ge i listed.size with h'|h'
    ·exact h'
    ·simp [Array.getElem?_eq_none h'] at h
   simp only [Array.getD_eq_getD_getElem?,Array.getElem?_eq_getElem hi',Option.getD_some] at h ⊢
   simp [h]
  have opAt:∀i,i<ops.size->∃o,ops[i]?=some o:=fun i hi=>⟨ops[i],Array.getElem?_eq_getElem hi⟩
  have onlt:∀i o e,ops[i]?=some o->e∈o.after->Region.binds .any e=true->e.on<i:=fun i o e ho he hb=>by
   have h1:=(jg hst (atH i o ho)).1
   have h2:=Ci ho he hb
   unfold nZ at h2
   rcases Nat.lt_or_ge e.on i with h|h
   ·exact h
   ·rw [Nat.testBit_lt_two_pow (Nat.lt_of_lt_of_le h1 (Nat.pow_le_pow_right (by omega) h))] at h2;cases h2
  have closed:∀i,∀k,nZ (fH ops) k i=true->i<ops.size->listed.getD i false=true->listed.getD k false=true:=by
   intro i
   induction i using Nat.strongRecOn with
   | _ i ihi =>
    intro k hk hi hl
    obtain ⟨o,ho⟩:=opAt i hi
    obtain ⟨e,he,hb,h⟩:=jy ho hk
    have hle:=hcl i o ho hl e he hb
    rcases h with rfl|h
    ·exact hle
    ·have:=onlt i o e ho he hb
     exact ihi e.on this k h (by omega) hle
  refine ⟨fun h0=>?_,fun i hi=>?_⟩
  ·cases hrm:rem with
   | nil =>
    rw [hrm] at hdr
    refine hQ _ S M N loc fp a w hI (fun k hk=>?_) hr hdr
    rcases Nat.lt_or_ge k listed.size with h|h
    ·omega
    ·simp [Array.getElem?_eq_none h] at hk
   | cons i r =>
    exfalso
    have him:i∈rem:=by rw [hrm];simp
    obtain ⟨hi,hun⟩:=(mem i).1 him
    obtain ⟨o,ho⟩:=opAt i hi
    have:i∈Region.ready .any ops listed:=mem_ready.2 ⟨hun,o,ho,fun e he hb=>by
     have h1:=onlt i o e ho he hb
     by_cases h2:listed.getD e.on true=false
     ·have h3:e.on∈rem:=(mem e.on).2 ⟨by omega,h2⟩
      rw [hrm] at h3 sorted
      rcases List.mem_cons.1 h3 with h4|h4
      ·omega
      ·have:=(List.pairwise_cons.1 sorted).1 e.on h4;omega
     ·exact lst e.on (by omega) h2⟩
    rw [h0] at this;cases this
  ·obtain ⟨hun,o,ho,haft⟩:=mem_ready.1 hi
   have hio:i<ops.size:=(Array.getElem?_eq_some_iff.1 ho).1
   have him:i∈rem:=(mem i).2 ⟨hio,hun⟩
   obtain ⟨l1,l2,hsplit⟩:=List.append_of_mem him
   have hnd:rem.Nodup:=sorted.imp fun h=>Nat.ne_of_lt h
   obtain ⟨hlt,hlit,hpair⟩:=jg hst (atH i o ho)
   have hXi:¬ listed.getD i false=true:=fun h=>lst' i h hun
   rw [hsplit] at hdr sorted hnd
   have hfr:=Ag (atH i o ho) hlit l1 l2 _ log S M hI hXi (fun k hk=>by
    have hkm:k∈rem:=by rw [hsplit];simp [hk]
    obtain ⟨hk1,hk2⟩:=(mem k).1 hkm
    have hki:k<i:=(List.pairwise_append.1 sorted).2.2 k hk i (by simp)
    obtain ⟨q,hq⟩:=opAt k hk1
    obtain ⟨hlt',hlit',_⟩:=jg hst (atH k q hq)
    have hXk:¬ listed.getD k false=true:=fun h=>lst' k h hk2
    have b1:nZ (fH ops) k i=false:=by
     cases hb:nZ (fH ops) k i with
     | false=>rfl
     | true =>
      exfalso
      obtain ⟨e,he,hbb,h⟩:=jy ho hb
      have hle:=haft e he hbb
      rcases h with rfl|h
      ·exact hXk hle
      ·have:=onlt i o e ho he hbb
       exact hXk (closed e.on k h (by omega) hle)
    refine ⟨by omega,hXk,_,atH k q hq,hlit',hpair k hki _ (atH k q hq) b1,b1,?_⟩
    unfold nZ
    exact Nat.testBit_lt_two_pow (Nat.lt_of_lt_of_le hlt' (Nat.pow_le_pow_right (by omega) (Nat.le_of_lt hki)))) (List.nodup_append.1 hnd).1 hdr
   obtain ⟨o',ho',hs,_,hnext⟩:=hfr
   rw [atH i o ho] at ho';cases ho'
   subst hall
   refine yl ho hr hI hXi hlit hs fun e a' w' hres ⟨N',loc',fp',hr'⟩=>?_
   obtain ⟨f1,f2,_,_⟩:=lT hI hlit hs hres
   have hI':=hI.step (o:=bn P E.ok o) f1 f2
   have hset:∀k,(listed.setIfInBounds i true).getD k false=true <-> (listed.getD k false=true\/k=i):=fun k=>by
    by_cases hk:k=i
    ·subst hk;simp [hsz,hio]
    ·rw [getD_set_ne false (fun h=>hk h.symm)];simp [hk]
   refine ih (listed.setIfInBounds i true) (l1++l2) _ _ _ N' loc' fp' a' w' (by simpa using hsz) ?_ ?_ ?_ (hnext e hres).2 ⟨fun t=>HV.inn_mono (hI'.slots t) fun x hx=>jB (fun k hk=>(hset k).2 hk) hx,fun id=>HV.inn_mono (hI'.trees id) fun x hx=>jB (fun k hk=>(hset k).2 hk) hx,fun id h=>jB (fun k hk=>(hset k).2 hk) (hI'.alive id h)⟩ hr'
   ·have e1:(List.range ops.size).filter (fun k=>(listed.setIfInBounds i true).getD k true==false)=((List.range ops.size).filter (fun k=>listed.getD k true==false)).filter (fun k=>k != i):=by
     rw [List.filter_filter]
     refine List.filter_congr fun k hk=>?_
     by_cases hki:k=i
     ·subst hki
      have:k<listed.size:=by omega
      simp [this]
     ·rw [getD_set_ne true (fun h=>hki h.symm)];simp [hki]
    rw [e1,<- hrem,hsplit]
    rw [List.nodup_append] at hnd
    obtain ⟨n1,n2,n3⟩:=hnd
    rw [List.nodup_cons] at n2
    rw [List.filter_append,List.filter_cons_of_neg (by simp),List.filter_eq_self.2,List.filter_eq_self.2]
    ·intro k hk;simp;exact fun e=>n2.1 (e▸hk)
    ·intro k hk;simp;exact fun e=>n3 k hk i (by simp) e
   ·rw [hsplit] at hfu;simp at hfu ⊢;omega
   ·intro k q hq hl e' he' hb'
    rcases (hset k).1 hl with h|rfl
    ·exact (hset _).2 (.inl (hcl k q hq h e' he' hb'))
    ·rw [ho] at hq;cases hq
     exact (hset _).2 (.inl (haft e' he' hb'))
theorem F9 {all:List aB} (hall:all=ops.toList.map (bn P E.ok)) (hst:lZ (fH ops) all=true) (n:Nat) (hn:n<=ops.size) (hlast:∀i,n<=i->i<ops.size->∀k,k<i->nZ (fH ops) k i=true)
  (hQ:∀fuel (listed:Array Bool) X S M N loc fp a w,ops.size - n<=fuel->listed.size=ops.size->(∀k,k<n->listed.getD k false=true)->(∀k,n<=k->k<ops.size->listed.getD k true=false)->Inv nx X S M->(∀k,X k->k<n)->Rel E N S M loc fp a w->K S M->wpAny P .any ops Q fuel listed a w) :
  ∀ (fuel:Nat) (listed:Array Bool) (rem:List Nat) (log:kJ) (S M:Lk) (N:Nat) (loc:Nat->Value) (fp:Nat->List Nat) (a:Act) (w:World),listed.size=ops.size->rem=(List.range n).filter (fun i=>listed.getD i true==false)->(∀k,n<=k->k<ops.size->listed.getD k true=false)->rem.length+(ops.size - n)<=fuel ->
   (∀i o,ops[i]?=some o->listed.getD i false=true->∀e∈o.after,Region.binds .any e=true->listed.getD e.on false=true) ->
   dr (HT P) D all (fH ops) nx K rem log S M->Inv nx (fun k=>listed.getD k false=true) S M->Rel E N S M loc fp a w->wpAny P .any ops Q fuel listed a w:=by
 have atH:∀i o,ops[i]?=some o->all[i]?=some (bn P E.ok o):=fun i o h=>by rw [hall,List.getElem?_map,Array.getElem?_toList,h];rfl
 intro fuel
 induction fuel with
 | zero =>
  intro listed rem log S M N loc fp a w hsz hrem hsuf hfu hcl hdr hI hr
  have hnil:rem=[]:=List.eq_nil_of_length_eq_zero (by omega)
  subst hnil
  have hall':∀k,k<n->listed.getD k false=true:=fun k hk=>by
   have hk':k<listed.size:=by omega
   have:¬ k∈(List.range n).filter (fun i=>listed.getD i true==false):=by rw [<- hrem];simp
   rw [List.mem_filter,List.mem_range] at this
   simp only [Array.getD_eq_getD_getElem?,Array.getElem?_eq_getElem hk',Option.getD_some] at this ⊢
   simpa [hk] using this
  refine hQ 0 listed _ S M N loc fp a w (by omega) hsz hall' hsuf hI (fun k hk=>?_) hr hdr
  rcases Nat.lt_or_ge k n with h|h
  ·exact h
  ·exfalso
   have hk':k<listed.size:=by
    rcases Nat.lt_or_ge k listed.size with h'|h'
    ·exact h'
    ·simp [Array.getElem?_eq_none h'] at hk
   have:=hsuf k h (by omega)
   simp only [Array.getD_eq_getD_getElem?,Array.getElem?_eq_getElem hk',Option.getD_some] at this hk
   rw [this] at hk;cases hk
 | succ fuel ih =>
  intro listed rem log S M N loc fp a w hsz hrem hsuf hfu hcl hdr hI hr
  have mem:∀i,i∈rem <-> i<n/\listed.getD i true=false:=fun i=>by rw [hrem,List.mem_filter,List.mem_range];simp
  have sorted:rem.Pairwise (·<·):=by rw [hrem];exact List.pairwise_lt_range.filter _
  have lst:∀i,i<ops.size->listed.getD i true≠false->listed.getD i false=true:=fun i hi h=>by
   have hi':i<listed.size:=by omega
   simp only [Array.getD_eq_getD_getElem?,Array.getElem?_eq_getElem hi',Option.getD_some] at h ⊢
   simpa using h
  have lst':∀i,listed.getD i false=true->listed.getD i true≠false:=fun i h=>by
   have hi':i<listed.size:=by
    rcases Nat.lt_or_ge i listed.size with h'|h'
    ·exact h'
    ·simp [Array.getElem?_eq_none h'] at h
   simp only [Array.getD_eq_getD_getElem?,Array.getElem?_eq_getElem hi',Option.getD_some] at h ⊢
   simp [h]
  have opAt:∀i,i<ops.size->∃o,ops[i]?=some o:=fun i hi=>⟨ops[i],Array.getElem?_eq_getElem hi⟩
  have onlt:∀i o e,ops[i]?=some o->e∈o.after->Region.binds .any e=true->e.on<i:=fun i o e ho he hb=>by
   have h1:=(jg hst (atH i o ho)).1
   have h2:=Ci ho he hb
   unfold nZ at h2
   rcases Nat.lt_or_ge e.on i with h|h
   ·exact h
   ·rw [Nat.testBit_lt_two_pow (Nat.lt_of_lt_of_le h1 (Nat.pow_le_pow_right (by omega) h))] at h2;cases h2
  have closed:∀i,∀k,nZ (fH ops) k i=true->i<ops.size->listed.getD i false=true->listed.getD k false=true:=by
   intro i
   induction i using Nat.strongRecOn with
   | _ i ihi =>
    intro k hk hi hl
    obtain ⟨o,ho⟩:=opAt i hi
    obtain ⟨e,he,hb,h⟩:=jy ho hk
    have hle:=hcl i o ho hl e he hb
    rcases h with rfl|h
    ·exact hle
    ·have:=onlt i o e ho he hb
     exact ihi e.on this k h (by omega) hle
  by_cases hrn:rem=[]
  ·subst hrn
   refine hQ (fuel+1) listed _ S M N loc fp a w (by simpa using hfu) hsz (fun k hk=>?_) hsuf hI (fun k hk=>?_) hr hdr
   ·exact lst k (by omega) fun h=>by have:=(mem k).2 ⟨hk,h⟩;cases this
   ·rcases Nat.lt_or_ge k n with h|h
    ·exact h
    ·exfalso
     have hk':k<listed.size:=by
      rcases Nat.lt_or_ge k listed.size with h'|h'
      ·exact h'
      ·simp [Array.getElem?_eq_none h'] at hk
     exact lst' k hk (hsuf k h (by omega))
  have hin:∀i,i∈Region.ready .any ops listed->i<n:=fun i hi=>by
   obtain ⟨hun,o,ho,haft⟩:=mem_ready.1 hi
   have hio:i<ops.size:=(Array.getElem?_eq_some_iff.1 ho).1
   rcases Nat.lt_or_ge i n with h|h
   ·exact h
   ·exfalso
    obtain ⟨k,hk⟩:=List.exists_mem_of_ne_nil rem hrn
    obtain ⟨hk1,hk2⟩:=(mem k).1 hk
    have hXk:¬ listed.getD k false=true:=fun h=>lst' k h hk2
    obtain ⟨e,he,hbb,h3⟩:=jy ho (hlast i h hio k (by omega))
    have hle:=haft e he hbb
    rcases h3 with rfl|h3
    ·exact hXk hle
    ·have:=onlt i o e ho he hbb
     exact hXk (closed e.on k h3 (by omega) hle)
  refine ⟨fun h0=>?_,fun i hi=>?_⟩
  ·exfalso
   cases hrm:rem with
   | nil=>exact hrn hrm
   | cons i r =>
    have him:i∈rem:=by rw [hrm];simp
    obtain ⟨hi,hun⟩:=(mem i).1 him
    obtain ⟨o,ho⟩:=opAt i (by omega)
    have:i∈Region.ready .any ops listed:=mem_ready.2 ⟨hun,o,ho,fun e he hb=>by
     have h1:=onlt i o e ho he hb
     by_cases h2:listed.getD e.on true=false
     ·have h3:e.on∈rem:=(mem e.on).2 ⟨by omega,h2⟩
      rw [hrm] at h3 sorted
      rcases List.mem_cons.1 h3 with h4|h4
      ·omega
      ·have:=(List.pairwise_cons.1 sorted).1 e.on h4;omega
     ·exact lst e.on (by omega) h2⟩
    rw [h0] at this;cases this
  ·have hin':=hin i hi
   obtain ⟨hun,o,ho,haft⟩:=mem_ready.1 hi
   have hio:i<ops.size:=(Array.getElem?_eq_some_iff.1 ho).1
   have him:i∈rem:=(mem i).2 ⟨hin',hun⟩
   obtain ⟨l1,l2,hsplit⟩:=List.append_of_mem him
   have hnd:rem.Nodup:=sorted.imp fun h=>Nat.ne_of_lt h
   obtain ⟨hlt,hlit,hpair⟩:=jg hst (atH i o ho)
   have hXi:¬ listed.getD i false=true:=fun h=>lst' i h hun
   rw [hsplit] at hdr sorted hnd
   have hfr:=Ag (atH i o ho) hlit l1 l2 _ log S M hI hXi (fun k hk=>by
    have hkm:k∈rem:=by rw [hsplit];simp [hk]
    obtain ⟨hk1,hk2⟩:=(mem k).1 hkm
    have hki:k<i:=(List.pairwise_append.1 sorted).2.2 k hk i (by simp)
    obtain ⟨q,hq⟩:=opAt k (by omega)
    obtain ⟨hlt',hlit',_⟩:=jg hst (atH k q hq)
    have hXk:¬ listed.getD k false=true:=fun h=>lst' k h hk2
    have b1:nZ (fH ops) k i=false:=by
     cases hb:nZ (fH ops) k i with
     | false=>rfl
     | true =>
      exfalso
      obtain ⟨e,he,hbb,h⟩:=jy ho hb
      have hle:=haft e he hbb
      rcases h with rfl|h
      ·exact hXk hle
      ·have:=onlt i o e ho he hbb
       exact hXk (closed e.on k h (by omega) hle)
    refine ⟨by omega,hXk,_,atH k q hq,hlit',hpair k hki _ (atH k q hq) b1,b1,?_⟩
    unfold nZ
    exact Nat.testBit_lt_two_pow (Nat.lt_of_lt_of_le hlt' (Nat.pow_le_pow_right (by omega) (Nat.le_of_lt hki)))) (List.nodup_append.1 hnd).1 hdr
   obtain ⟨o',ho',hs,_,hnext⟩:=hfr
   rw [atH i o ho] at ho';cases ho'
   subst hall
   refine yl ho hr hI hXi hlit hs fun e a' w' hres ⟨N',loc',fp',hr'⟩=>?_
   obtain ⟨f1,f2,_,_⟩:=lT hI hlit hs hres
   have hI':=hI.step (o:=bn P E.ok o) f1 f2
   have hset:∀k,(listed.setIfInBounds i true).getD k false=true <-> (listed.getD k false=true\/k=i):=fun k=>by
    by_cases hk:k=i
    ·subst hk;simp [hsz,hio]
    ·rw [getD_set_ne false (fun h=>hk h.symm)];simp [hk]
   refine ih (listed.setIfInBounds i true) (l1++l2) _ _ _ N' loc' fp' a' w' (by simpa using hsz) ?_ ?_ ?_ ?_ (hnext e hres).2 ⟨fun t=>HV.inn_mono (hI'.slots t) fun x hx=>jB (fun k hk=>(hset k).2 hk) hx,fun id=>HV.inn_mono (hI'.trees id) fun x hx=>jB (fun k hk=>(hset k).2 hk) hx,fun id h=>jB (fun k hk=>(hset k).2 hk) (hI'.alive id h)⟩ hr'
   ·have e1:(List.range n).filter (fun k=>(listed.setIfInBounds i true).getD k true==false)=((List.range n).filter (fun k=>listed.getD k true==false)).filter (fun k=>k != i):=by
     rw [List.filter_filter]
     refine List.filter_congr fun k hk=>?_
     rw [List.mem_range] at hk
     by_cases hki:k=i
     ·subst hki
      have:k<listed.size:=by omega
      simp [this]
     ·rw [getD_set_ne true (fun h=>hki h.symm)];simp [hki]
    rw [e1,<- hrem,hsplit]
    rw [List.nodup_append] at hnd
    obtain ⟨n1,n2,n3⟩:=hnd
    rw [List.nodup_cons] at n2
    rw [List.filter_append,List.filter_cons_of_neg (by simp),List.filter_eq_self.2,List.filter_eq_self.2]
    ·intro k hk;simp;exact fun e=>n2.1 (e▸hk)
    ·intro k hk;simp;exact fun e=>n3 k hk i (by simp) e
   ·intro k hk1 hk2
    rw [getD_set_ne true (by omega)];exact hsuf k hk1 hk2
   ·rw [hsplit] at hfu;simp at hfu ⊢;omega
   ·intro k q hq hl e' he' hb'
    rcases (hset k).1 hl with h|rfl
    ·exact (hset _).2 (.inl (hcl k q hq h e' he' hb'))
    ·rw [ho] at hq;cases hq
     exact (hset _).2 (.inl (haft e' he' hb'))
end
end Go.HL
end
