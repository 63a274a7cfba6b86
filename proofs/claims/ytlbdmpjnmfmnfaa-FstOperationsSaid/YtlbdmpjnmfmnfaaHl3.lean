import Derived.Test.YtlbdmpjnmfmnfaaHl2
import Derived.Orders
set_option linter.unusedSimpArgs false
set_option linter.unusedVariables false
section
namespace Go.HL
open Go.RowKit
mutual
def HV.deep:HV->List Nat
 | .ref i _ _ _ _=>[i]
 | .pref i _ _=>[i]
 | .sl _ cs=>aO cs
 | .osl _ _ cs=>aO cs
 | .ptr cs _=>aO cs
 | .optr cs=>aO cs
 | .agg cs=>aO cs
 | .tup cs=>aO cs
 | .fn _ cs=>aO cs
 | .rmap _ _ cs=>aO cs
 | .omap _ _ cs=>aO cs
 | .mref i _=>[i]
 | _=>[]
def aO:List HV->List Nat
 | []=>[]
 | v::r=>v.deep++aO r
end
def HV.inn (p:Nat->Prop) (v:HV):Prop:=∀x∈v.deep,p x
def innL (p:Nat->Prop) (l:List HV):Prop:=∀v∈l,v.inn p
theorem mem_deepL {x:Nat} {l:List HV}:x∈aO l <-> ∃v∈l,x∈v.deep:=by
 induction l with
 | nil=>simp [aO]
 | cons v r ih=>simp [aO,ih]
theorem innL_iff {p:Nat->Prop} {l:List HV}:innL p l <-> ∀x∈aO l,p x:=by
 unfold innL HV.inn
 constructor
 ·intro h x hx
  obtain ⟨v,hv,hx⟩:=mem_deepL.1 hx
  exact h v hv x hx
 ·intro h v hv x hx
  exact h x (mem_deepL.2 ⟨v,hv,hx⟩)
section
variable {p:Nat->Prop}
@[simp] theorem kW {k n}:(HV.int k n).inn p:=by simp [HV.inn,HV.deep]
@[simp] theorem qX {b}:(HV.bool b).inn p:=by simp [HV.inn,HV.deep]
@[simp] theorem Zr {b}:(HV.str b).inn p:=by simp [HV.inn,HV.deep]
@[simp] theorem aec:HV.nils.inn p:=by simp [HV.inn,HV.deep]
@[simp] theorem ad7:HV.nilp.inn p:=by simp [HV.inn,HV.deep]
@[simp] theorem ae6:HV.nilf.inn p:=by simp [HV.inn,HV.deep]
@[simp] theorem dh:HV.dead.inn p:=by simp [HV.inn,HV.deep]
@[simp] theorem Ld {i q sz o n}:(HV.ref i q sz o n).inn p <-> p i:=by simp [HV.inn,HV.deep]
@[simp] theorem BC {i q o}:(HV.pref i q o).inn p <-> p i:=by simp [HV.inn,HV.deep]
@[simp] theorem YK {n cs}:(HV.sl n cs).inn p <-> innL p cs:=by rw [innL_iff];rfl
@[simp] theorem zu {sz n cs}:(HV.osl sz n cs).inn p <-> innL p cs:=by rw [innL_iff];rfl
@[simp] theorem Fe {n cs}:(HV.ptr cs n).inn p <-> innL p cs:=by rw [innL_iff];rfl
@[simp] theorem Oc {cs}:(HV.optr cs).inn p <-> innL p cs:=by rw [innL_iff];rfl
@[simp] theorem uM {cs}:(HV.agg cs).inn p <-> innL p cs:=by rw [innL_iff];rfl
@[simp] theorem zM {cs}:(HV.tup cs).inn p <-> innL p cs:=by rw [innL_iff];rfl
@[simp] theorem D5 {f cs}:(HV.fn f cs).inn p <-> innL p cs:=by rw [innL_iff];rfl
@[simp] theorem adc:HV.nilm.inn p:=by simp [HV.inn,HV.deep]
@[simp] theorem ae8 {b s l c}:(HV.oitr b s l c).inn p:=by simp [HV.inn,HV.deep]
@[simp] theorem Di {i q}:(HV.mref i q).inn p <-> p i:=by simp [HV.inn,HV.deep]
@[simp] theorem HY {m ks cs}:(HV.rmap m ks cs).inn p <-> innL p cs:=by rw [innL_iff];rfl
@[simp] theorem vP {m ks cs}:(HV.omap m ks cs).inn p <-> innL p cs:=by rw [innL_iff];rfl
@[simp] theorem Nh:innL p []:=by simp [innL]
@[simp] theorem aS {v l}:innL p (v::l) <-> v.inn p/\innL p l:=by simp [innL]
@[simp] theorem EH {l l'}:innL p (l++l') <-> innL p l/\innL p l':=by
 simp only [innL,zl003]
 exact ⟨fun h=>⟨fun v hv=>h v (.inl hv),fun v hv=>h v (.inr hv)⟩,fun h v hv=>hv.elim (h.1 v) (h.2 v)⟩
theorem innL.take {l} (h:innL p l) (n:Nat):innL p (l.take n):=fun v hv=>h v (Es hv)
theorem innL.drop {l} (h:innL p l) (n:Nat):innL p (l.drop n):=fun v hv=>h v (List.mem_of_mem_drop hv)
theorem innL.win {l} (h:innL p l) (a b:Nat):innL p (win l a b):=by
 unfold HL.win;split
 ·exact h
 ·exact (h.drop _).take _
theorem innL.getD {l} (h:innL p l) (n:Nat):(l.getD n .dead).inn p:=by
 rw [bH]
 cases hn:l[n]? with
 | none=>simp
 | some v=>exact h v (List.mem_of_getElem? hn)
theorem innL.set {l} (h:innL p l) (n:Nat) {v:HV} (hv:v.inn p):innL p (l.set n v):=fun u hu=>by
 rcases List.mem_or_eq_of_mem_set hu with hu|rfl
 ·exact h u hu
 ·exact hv
theorem o6 {v:HV} (h:v.inn p) (q:List Nat):(aB v q).inn p:=by
 induction q generalizing v with
 | nil=>simpa [aB] using h
 | cons j q ih =>
  cases v<;>simp only [aB,dh]
  ·exact ih (innL.getD (by simpa using h) j)
  ·exact ih (innL.getD (by simpa using h) j)
  ·exact ih (innL.getD (by simpa using h) j)
theorem Cc {x v:HV} (hx:x.inn p) (h:v.inn p) (q:List Nat):(dI x v q).inn p:=by
 induction q generalizing v with
 | nil=>simpa [dI] using hx
 | cons j q ih =>
  cases v<;>simp only [dI]<;>(first|exact h|skip)
  ·simp only [zu] at h ⊢
   exact h.set j (ih (h.getD j))
  ·simp only [Oc] at h ⊢
   exact h.set j (ih (h.getD j))
  ·simp only [vP] at h ⊢
   exact h.set j (ih (h.getD j))
theorem H5 {v:HV} (h:v.inn p):innL p (bn v):=by cases v<;>simp_all [bn]
theorem PM {v:HV} {cs:List HV} (h:v.inn p) (hc:innL p cs):(di cs v).inn p:=by cases v<;>simp_all [di]
theorem xW {cs l:List HV} (h:innL p cs) (hl:innL p l) (o:Nat):innL p (setFrom cs o l):=by
 induction l generalizing cs o with
 | nil=>simpa [setFrom] using h
 | cons v r ih =>
  simp only [aS] at hl
  exact ih (h.set o hl.1) hl.2 (o+1)
theorem zq {v:HV} (h:v.inn p):innL p (cellsOf v):=by
 unfold cellsOf;split
 ·simpa using h
 ·simpa using h
theorem Ns {v:HV} {id j:Nat} {q:List Nat} (hi:p id) (h:v.inn p):(look id q j v).inn p:=by
 unfold look
 split<;>(try split)<;>first|exact dh|exact h|simpa using hi
theorem N7 {zs:List HV} {ps:List (Nat×Nat×HV)} (h:innL p zs) (hp:∀q∈ps,q.2.2.inn p):innL p (pJ zs ps).1:=by
 induction ps generalizing zs with
 | nil=>exact h
 | cons q r ih =>
  obtain ⟨o,sz,v⟩:=q
  simp only [pJ]
  exact ih (xW h (zq (hp (o,sz,v) (by simp))) o) fun q hq=>hp q (by simp [hq])
def ZP (p:Nat->Prop):Upd->Prop
 | .put id t=>p id/\t.inn p
 | .kill ..=>True
def jG:List Upd->List Nat
 | []=>[]
 | .put id _::r=>id::jG r
 | .kill ..::r=>jG r
theorem EL (a b:List Upd):jG (a++b)=jG a++jG b:=by
 induction a with
 | nil=>rfl
 | cons u a ih=>cases u<;>simp [jG,ih]
theorem Zz {L:Lk} {us:List Upd} (h:∀id,(L id).inn p) (hu:∀u∈us,ZP p u) (id:Nat):(Lk.upd L us id).inn p:=by
 induction us generalizing L with
 | nil=>exact h id
 | cons u us ih =>
  cases u with
  | put i t =>
   refine ih (L:=fun j=>if j=i then t else L j) (fun j=>?_) fun u hu'=>hu u (by simp [hu'])
   split
   ·exact (hu (.put i t) (by simp)).2
   ·exact h j
  | kill i n=>exact ih h fun u hu'=>hu u (by simp [hu'])
theorem qJ {L:Lk} {us:List Upd} {id:Nat} (h:id ∉ jG us):Lk.upd L us id=L id:=by
 induction us generalizing L with
 | nil=>rfl
 | cons u us ih =>
  cases u with
  | put i t =>
   simp only [jG,zl011,not_or] at h
   simp only [Lk.upd]
   rw [ih h.2,if_neg h.1]
  | kill i n=>exact ih h
theorem AB {L L':Lk} {us:List Upd} {id:Nat} (h:id∈jG us\/L id=L' id):Lk.upd L us id=Lk.upd L' us id:=by
 induction us generalizing L L' with
 | nil=>rcases h with h|h;cases h;exact h
 | cons u us ih =>
  cases u with
  | put i t =>
   simp only [Lk.upd]
   refine ih ?_
   simp only [jG,zl011] at h
   by_cases hi:id=i
   ·right;simp [hi]
   ·rcases h with (h|h)|h
    ·exact absurd h hi
    ·exact .inl h
    ·right;simp [hi,h]
  | kill i n=>exact ih h
end
def VR (D:List Nat) (p:Nat->Prop):Upd->Prop
 | .put id t=>id∈D/\t.inn p
 | .kill ..=>True
section
variable {p:Nat->Prop} {L L':Lk} {D:List Nat}
theorem bV {v:HV} (hv:v.inn p) (hD:∀x∈v.deep,x∈D) (hL:∀id,(L id).inn p):(takeC L v).1.inn p/\(∀u∈(takeC L v).2.1,VR D p u)/\∀u∈(takeC L v).2.1,∃id t,u=.put id t:=by
 unfold takeC
 split
 ·rename_i id _ off n
  have:=hL id
  split
  ·rename_i sz m cs h
   rw [h] at this
   exact ⟨this,by simp [VR];exact hD id (by simp [HV.deep]),by simp⟩
  ·simp
 ·rename_i id off
  have:=hL id
  split
  ·rename_i cs h
   rw [h] at this
   exact ⟨this,by simp [VR];exact hD id (by simp [HV.deep]),by simp⟩
  ·simp
 ·rename_i id
  have:=hL id
  split
  ·rename_i m ks cs h
   rw [h] at this
   exact ⟨this,by simp [VR];exact hD id (by simp [HV.deep]),by simp⟩
  ·simp
 all_goals first|exact ⟨hv,by simp,by simp⟩|simp
theorem dK {v:HV} (h:∀x∈v.deep,L x=L' x):takeC L v=takeC L' v:=by
 unfold takeC
 split<;>first|rfl|skip
 ·rename_i id _ off n;rw [h id (by simp [HV.deep])]
 ·rename_i id off;rw [h id (by simp [HV.deep])]
 ·rename_i id;rw [h id (by simp [HV.deep])]
theorem CU (hL:∀id,(L id).inn p) {us:List Upd} (h:∀u∈us,VR D p u) (id:Nat):(Lk.upd L us id).inn p:=by
 induction us generalizing L with
 | nil=>exact hL id
 | cons u us ih =>
  cases u with
  | put i t =>
   refine ih (L:=fun j=>if j=i then t else L j) (fun j=>?_) fun u hu'=>h u (by simp [hu'])
   split
   ·exact (h (.put i t) (by simp)).2
   ·exact hL j
  | kill i n=>exact ih hL fun u hu'=>h u (by simp [hu'])
theorem Io {l:List HV}:∀ {L:Lk},innL p l->(∀x∈aO l,x∈D)->(∀id,(L id).inn p)->innL p (iC L l).1/\(∀u∈(iC L l).2.1,VR D p u)/\∀u∈(iC L l).2.1,∃id t,u=.put id t:=by
 induction l with
 | nil=>intro L h hD hL;simp [iC]
 | cons v r ih =>
  intro L h hD hL
  simp only [aS] at h
  simp only [aO,zl003] at hD
  obtain ⟨a1,a2,a3⟩:=bV (L:=L) h.1 (fun x hx=>hD x (.inl hx)) hL
  obtain ⟨b1,b2,b3⟩:=ih (L:=Lk.upd L (takeC L v).2.1) h.2 (fun x hx=>hD x (.inr hx)) (CU hL a2)
  simp only [iC,aS,zl003]
  exact ⟨⟨a1,b1⟩,fun u hu=>hu.elim (a2 u) (b2 u),fun u hu=>hu.elim (a3 u) (b3 u)⟩
theorem yB {l:List HV}:∀ {L L':Lk},(∀x∈aO l,L x=L' x)->iC L l=iC L' l:=by
 induction l with
 | nil=>intros;rfl
 | cons v r ih =>
  intro L L' h
  simp only [aO,zl003] at h
  have e1:=dK (L:=L) (L':=L') fun x hx=>h x (.inl hx)
  have e2:=ih (L:=Lk.upd L (takeC L v).2.1) (L':=Lk.upd L' (takeC L v).2.1) fun x hx=>AB (.inr (h x (.inr hx)))
  simp only [iC,<- e1,e2]
end
def HOp.vals {α:Type}:HOp α->List α
 | .mv _ x=>[x]|.pick c a b=>[c,a,b]|.bin _ x y=>[x,y]|.beq _ x y=>[x,y]|.aeq _ _ x y=>[x,y]|.un _ x=>[x]|.conv _ x=>[x]
 | .newv _ x=>[x]|.newz _=>[]|.bld _ ps=>ps.map (·.2.2)|.bsl _ _ xs=>xs|.load _ _ x=>[x]|.store _ _ x y=>[x,y]|.nilck x=>[x]
 | .mkfn _ xs=>xs|.mksl _ _ _ l=>[l]|.slc _ x lo hi=>x::(lo.toList++hi.toList)|.faddr _ x=>[x]|.fld _ _ _ x=>[x]|.iaddr _ x i=>[x,i]|.ext x _=>[x]
 | .len x=>[x]|.app _ _ _ s x=>[s,x]|.mm _ x y=>[x,y]|.cpy x y=>[x,y]|.slz _ x=>[x]|.isn _ x=>[x]
 | .mnil _ x=>[x]|.mkmap _=>[]|.mlook _ _ _ x k=>[x,k]|.mset _ x k v=>[x,k,v]|.mlen x=>[x]|.mrng x=>[x]|.mnxt x=>[x]|.ment x=>[x]|.tostr x=>[x]|.call _ xs=>xs|.callv x xs=>x::xs|.bi _ _ _ xs=>xs|.bad=>[]
def HOp.lits {α:Type}:HOp α->List HV
 | .newz zs=>zs|.bld zs _=>zs|.mksl _ _ z _=>z|.mlook _ _ z _ _=>[z]|_=>[]
def HOp.wrt {α:Type}:HOp α->Bool
 | .newv ..=>true|.bsl ..=>true|.store ..=>true|.app ..=>true|.cpy ..=>true|.mset ..=>true|_=>false
def HOp.touch {α:Type}:HOp α->Bool
 | .newv ..=>true|.bsl ..=>true|.store ..=>true|.app ..=>true|.cpy ..=>true|.load ..=>true|.mset ..=>true|.mlook ..=>true|.mlen _=>true|.mnil ..=>true|.tostr _=>true|.call ..=>true|.callv ..=>true|.bi ..=>true|_=>false
def HOp.killer {α:Type}:HOp α->Bool
 | .store f ..=>!f|.mset ..=>true|_=>false
def HOp.wrtO {α:Type} (own:FuncId->Bool):HOp α->Bool
 | .call f _=>own f
 | op=>op.wrt
theorem HOp.wrtO_map {α β:Type} (own:FuncId->Bool) (g:α->β) (o:HOp α):(o.map g).wrtO own=o.wrtO own:=by cases o<;>rfl
theorem HOp.wrtO_of {α:Type} (own:FuncId->Bool) {o:HOp α} (h:o.wrt=true):o.wrtO own=true:=by cases o<;>first|exact h|cases h
theorem HOp.wrtO_no {α:Type} (o:HOp α):o.wrtO (fun _=>false)=o.wrt:=by cases o<;>rfl
theorem HOp.vals_map {α β:Type} (g:α->β) (o:HOp α):(o.map g).vals=o.vals.map g:=by
 cases o<;>simp [HOp.vals,HOp.map]
 rename_i lo hi;cases lo<;>cases hi<;>simp
theorem HOp.lits_map {α β:Type} (g:α->β) (o:HOp α):(o.map g).lits=o.lits:=by cases o<;>rfl
theorem HOp.touch_map {α β:Type} (g:α->β) (o:HOp α):(o.map g).touch=o.touch:=by cases o<;>rfl
theorem HOp.killer_map {α β:Type} (g:α->β) (o:HOp α):(o.map g).killer=o.killer:=by cases o<;>rfl
def ade (mk:Nat->HV):Prop:=(∃sz n,mk=fun fr=>.ref fr [] sz 0 n)\/(mk=fun fr=>.pref fr [] 0)\/mk=fun fr=>.mref fr []
section
variable {p:Nat->Prop} {L L':Lk} {D:List Nat}
def Shape (L:Lk) (p:Nat->Prop) (D:List Nat) (op:HOp HV):Prop :=
 ∃us0,(∀u∈us0,VR D p u)/\(op.wrt=false->us0=[])/\(op.killer=false->∀u∈us0,∃id t,u=.put id t) /\
  ((∃v q,v.inn p/\∀fr,ak L fr op=(v,us0,q))\/(∃mk T q,ade mk/\T.inn p/\∀fr,ak L fr op=(mk fr,us0++[.put fr T],q)))
theorem Shape.pure {op:HOp HV} (h:∀fr,ak L fr op=ak L 0 op) (h1:(ak L 0 op).2.1=[]) (h2:(ak L 0 op).1.inn p):Shape L p D op :=
 ⟨[],by simp,fun _=>rfl,by simp,.inl ⟨_,_,h2,fun fr=>by rw [h fr,<- h1]⟩⟩
theorem Shape.dead {op:HOp HV} {q:Prop} (h:∀fr,ak L fr op=(.dead,[],q)):Shape L p D op:=⟨[],by simp,fun _=>rfl,by simp,.inl ⟨_,_,dh,h⟩⟩
theorem Shape.mk {op:HOp HV} {mk:Nat->HV} {us0:List Upd} {T:HV} {q:Prop} (h:∀fr,ak L fr op=(mk fr,us0++[.put fr T],q)) (hm:ade mk) (hT:T.inn p) (hu:∀u∈us0,VR D p u) (hw:op.wrt=false->us0=[]) (hk:∀u∈us0,∃id t,u=.put id t):Shape L p D op :=
 ⟨us0,hu,hw,fun _=>hk,.inr ⟨mk,T,q,hm,hT,h⟩⟩
theorem RZ {op:BinOp} {x y:HV}:(QU op x y).1.inn p:=by
 unfold QU
 split<;>(try split)<;>first|exact kW|exact qX|exact dh
theorem Vg {l:List HV} (h:innL p l):innL p (l.flatMap cellsOf):=fun v hv=>by
 obtain ⟨u,hu,hv⟩:=zl065.1 hv
 exact zq (h u hu) v hv
theorem ui {v:HV} {x:Nat} (h:x∈aO (cellsOf v)):x∈v.deep:=by
 unfold cellsOf at h
 split at h
 ·exact h
 ·simpa [aO] using h
theorem DR {l:List HV} {x:Nat} (h:x∈aO (l.flatMap cellsOf)):x∈aO l:=by
 rw [mem_deepL] at h ⊢
 obtain ⟨v,hv,hx⟩:=h
 obtain ⟨u,hu,hv⟩:=zl065.1 hv
 exact ⟨u,hu,ui (mem_deepL.2 ⟨v,hv,hx⟩)⟩
theorem TN {fl:Bool} {sz:Nat} {v:HV} (hv:v.inn p) (hD:∀x∈v.deep,x∈D) (hL:∀id,(L id).inn p):innL p (dN L fl sz v).2.1/\(∀u∈(dN L fl sz v).2.2.1,VR D p u)/\∀u∈(dN L fl sz v).2.2.1,∃id t,u=.put id t:=by
 unfold dN
 split
 ·simp
 ·exact ⟨by simpa using hv,by simp,by simp⟩
 ·rename_i id q sz' off m
  have:=o6 (hL id) q
  split
  ·rename_i cs h
   rw [h] at this
   simp only [zu] at this
   split
   ·exact ⟨this.win _ _,by simp,by simp⟩
   ·exact ⟨this,by simp [VR];exact hD id (by simp [HV.deep]),by simp⟩
  ·simp
 ·simp
theorem H7 {fl:Bool} {sz:Nat} {v:HV} (h:∀x∈v.deep,L x=L' x):dN L fl sz v=dN L' fl sz v:=by
 unfold dN
 split<;>first|rfl|skip
 ·rename_i id q sz' off m;rw [h id (by simp [HV.deep])]
theorem uD {ok b:Bool} {v:HV} (h:v.inn p):(okV ok v b).inn p:=by cases ok<;>simp [okV,h]
theorem J7 {cs:List HV}:(strOf cs).1.inn p:=by unfold strOf;split<;>simp
theorem Ju {cs:List HV}:(strOf cs).2.1=[]:=by unfold strOf;split<;>rfl
theorem WF {m:MK} {ks cs:List HV} {k v:HV} (h:innL p cs) (hv:v.inn p):(zS m ks cs k v).inn p:=by
 unfold zS
 split
 ·simp only [vP];exact h.set _ hv
 ·simp only [vP,EH,aS,Nh,and_true];exact ⟨h,hv⟩
theorem Iq {op:HOp HV} (hv:innL p op.vals) (hD:∀x∈aO op.vals,x∈D) (hl:innL p op.lits) (hL:∀id,(L id).inn p):Shape L p D op:=by
 cases op
 case mv nz v =>
  simp only [HOp.vals,aS] at hv
  cases nz with
  | zero=>exact .pure (fun _=>rfl) rfl hv.1
  | succ k=>cases v<;>first|exact .mk (mk:=fun fr=>.ref fr [] (k+1) 0 0) (us0:=[]) (T:=.osl (k+1) 0 []) (q:=True) (fun _=>rfl) (.inl ⟨_,_,rfl⟩) (by simp) (by simp) (fun _=>rfl) (by simp)|exact .pure (fun _=>rfl) rfl hv.1
 case pick c a b =>
  simp only [HOp.vals,aS] at hv
  cases c<;>first|exact .dead fun _=>rfl|skip
  rename_i t
  refine .pure (fun _=>rfl) ?_ ?_<;>simp only [ak]<;>split<;>first|rfl|exact qX|(split<;>first|exact hv.2.1|exact hv.2.2.1)
 case bin op x y=>exact .pure (fun _=>rfl) rfl RZ
 case beq ne x y=>refine .pure (fun _=>rfl) ?_ ?_<;>simp only [ak]<;>split<;>first|rfl|exact qX|exact dh
 case aeq ne n x y=>refine .pure (fun _=>rfl) ?_ ?_<;>simp only [ak]<;>split<;>first|rfl|exact qX|exact dh
 case un op x=>refine .pure (fun _=>rfl) ?_ ?_<;>simp only [ak]<;>split<;>first|rfl|exact qX|exact dh|exact kW
 case conv k x=>refine .pure (fun _=>rfl) ?_ ?_<;>simp only [ak]<;>split<;>first|rfl|exact dh|exact kW
 case newv sz x =>
  simp only [HOp.vals,aS,aO,List.append_nil] at hv hD
  obtain ⟨a1,a2,a3⟩:=Io (D:=D) (zq hv.1) (fun x hx=>hD x (ui hx)) hL
  exact .mk (mk:=fun fr=>.pref fr [] 0) (fun _=>rfl) (.inr (.inl rfl)) (by simpa using a1) a2 (fun h=>by cases h) a3
 case newz zs=>exact .mk (mk:=fun fr=>.pref fr [] 0) (us0:=[]) (T:=.optr zs) (q:=True) (fun _=>rfl) (.inr (.inl rfl)) (by simpa [HOp.lits] using hl) (by simp) (fun _=>rfl) (by simp)
 case bld zs ps =>
  refine .pure (fun _=>rfl) rfl ?_
  simp only [ak,uM]
  exact N7 hl fun q hq=>hv q.2.2 (Aa hq)
 case bsl sz n xs =>
  obtain ⟨a1,a2,a3⟩:=Io (D:=D) (Vg (p:=p) (l:=xs) hv) (fun x hx=>hD x (DR hx)) hL
  exact .mk (mk:=fun fr=>.ref fr [] sz 0 n) (fun _=>rfl) (.inl ⟨_,_,rfl⟩) (by simpa using a1) a2 (fun h=>by cases h) a3
 case load a sz x =>
  simp only [HOp.vals,aS] at hv
  cases x<;>first|exact .dead fun _=>rfl|skip
  ·have h1:=hv.1
   simp only [Fe] at h1
   cases a
   ·exact .pure (fun _=>rfl) rfl (h1.getD _)
   ·exact .pure (fun _=>rfl) rfl (by simp only [ak];simpa using h1.win _ _)
  ·rename_i id q off
   have h1:=hv.1
   simp only [BC] at h1
   have h2:=H5 (o6 (hL id) q)
   cases a
   ·exact .pure (fun _=>rfl) rfl (Ns h1 (h2.getD _))
   ·exact .pure (fun _=>rfl) rfl (by simp only [ak];simpa using h2.win _ _)
 case store fl sz x y =>
  simp only [HOp.vals,aS,aO,List.append_nil,zl003] at hv hD
  cases x<;>first|exact .dead fun _=>rfl|skip
  rename_i id q off
  obtain ⟨a1,a2,a3⟩:=Io (D:=D) (zq hv.2.1) (fun x hx=>hD x (.inr (ui hx))) hL
  have ht:=CU hL a2 id
  refine ⟨(ak L 0 (.store fl sz (.pref id q off) y)).2.1,?_,(fun h=>by cases h),?_,.inl ⟨_,_,?_,fun _=>rfl⟩⟩
  ·intro u hu
   simp only [ak,zl003,zl009] at hu
   rcases hu with (hu|hu)|rfl
   ·exact a2 u hu
   ·cases fl<;>simp at hu
    subst hu;trivial
   ·exact ⟨hD id (.inl (by simp [HV.deep])),Cc (PM (o6 ht q) (xW (H5 (o6 ht q)) a1 off)) ht q⟩
  ·intro hk u hu
   simp only [HOp.killer,Bool.not_eq_false'] at hk
   subst hk
   simp only [ak,zl003,zl009,if_true,GM,or_false] at hu
   rcases hu with hu|rfl
   ·exact a3 u hu
   ·exact ⟨_,_,rfl⟩
  ·exact dh
 case nilck x =>
  simp only [HOp.vals,aS] at hv
  cases x<;>first|exact .dead fun _=>rfl|exact .pure (fun _=>rfl) rfl hv.1
 case mkfn f xs=>exact .pure (fun _=>rfl) rfl (by simp only [ak,D5];exact hv)
 case mksl sz bytes z l =>
  cases l<;>first|exact .dead fun _=>rfl|skip
  rename_i k n
  cases k<;>first|exact .dead fun _=>rfl|skip
  refine .mk (mk:=fun fr=>.ref fr [] sz 0 n.toNat) (us0:=[]) (fun _=>rfl) (.inl ⟨_,_,rfl⟩) ?_ (by simp) (fun _=>rfl) (by simp)
  simp only [zu]
  intro v hv'
  obtain ⟨l,hl',hv'⟩:=List.mem_flatten.1 hv'
  rw [List.mem_replicate] at hl'
  rw [hl'.2] at hv'
  exact hl v hv'
 case slc sz x lo hi =>
  simp only [HOp.vals,aS] at hv
  refine .pure (fun _=>rfl) ?_ ?_
  ·simp only [ak]
   repeat' split
   all_goals rfl
  ·simp only [ak]
   split
   ·split
    ·split
     ·simp only [YK];exact innL.win (by simpa using hv.1) _ _
     ·exact dh
    ·split
     ·simpa using hv.1
     ·exact dh
    ·exact dh
   ·exact dh
 case faddr d x =>
  simp only [HOp.vals,aS] at hv
  cases x<;>first|exact .dead fun _=>rfl|exact .pure (fun _=>rfl) rfl (by simpa [ak] using hv.1)
 case fld a sz off x =>
  simp only [HOp.vals,aS] at hv
  cases x<;>first|exact .dead fun _=>rfl|skip
  have h1:=hv.1
  simp only [uM] at h1
  cases a
  ·exact .pure (fun _=>rfl) rfl (h1.getD _)
  ·exact .pure (fun _=>rfl) rfl (by simp only [ak];simpa using h1.win _ _)
 case iaddr sz x i =>
  simp only [HOp.vals,aS] at hv
  cases i<;>first|exact .dead fun _=>rfl|skip
  cases x<;>first|exact .dead fun _=>rfl|exact .pure (fun _=>rfl) rfl (by simpa [ak] using hv.1)
 case ext x i =>
  simp only [HOp.vals,aS] at hv
  cases x<;>first|exact .dead fun _=>rfl|skip
  have h1:=hv.1
  simp only [zM] at h1
  exact .pure (fun _=>rfl) rfl (h1.getD _)
 case len x=>cases x<;>first|exact .dead fun _=>rfl|exact .pure (fun _=>rfl) rfl kW
 case app fl sz bytes x y =>
  simp only [HOp.vals,aS,aO,List.append_nil,zl003] at hv hD
  obtain ⟨a1,a2,a3⟩:=TN (D:=D) (fl:=fl) (sz:=sz) hv.2.1 (fun x hx=>hD x (.inr hx)) hL
  cases x<;>first|exact .dead fun _=>rfl|skip
  ·exact .mk (mk:=fun fr=>.ref fr [] sz 0 (dN L fl sz y).1) (fun _=>rfl) (.inl ⟨_,_,rfl⟩) (by simpa using a1) a2 (fun h=>by cases h) a3
  ·rename_i id q sz' off n
   have ht:=CU hL a2 id
   have hn:=o6 ht q
   simp only [Shape]
   generalize htt:Lk.upd L (dN L fl sz y).2.2.1 id=t at ht hn
   generalize hnn:aB t q=nd at hn
   have dd:(∀fr,ak L fr (.app fl sz bytes (.ref id q sz' off n) y)=(.dead,[],False))->Shape L p D (.app fl sz bytes (.ref id q sz' off n) y):=fun h=>.dead h
   cases nd with
   | osl s m cs =>
    simp only [zu] at hn
    refine Shape.mk (mk:=fun fr=>.ref fr [] sz 0 (n+(dN L fl sz y).1)) (us0:=(dN L fl sz y).2.2.1++[.put id (dI .dead t q)]) (T:=.osl sz (n+(dN L fl sz y).1) (win cs off (n*sz)++(dN L fl sz y).2.1))
     (q:=(dN L fl sz y).2.2.2/\(n+(dN L fl sz y).1)*bytes<=140737488355328/\n+(dN L fl sz y).1<=maxLen/\sz'=sz/\off+n*sz<=cs.length) (fun fr=>?_) (.inl ⟨_,_,rfl⟩) ?_ ?_ (fun h=>by cases h) ?_
    ·simp only [ak,htt,hnn,kQ,List.cons_append,List.nil_append]
    ·simp only [zu,EH];exact ⟨hn.win _ _,a1⟩
    ·intro u hu
     simp only [zl003,zl009] at hu
     rcases hu with hu|rfl
     ·exact a2 u hu
     ·exact ⟨hD id (.inl (by simp [HV.deep])),Cc dh ht q⟩
    ·intro u hu
     simp only [zl003,zl009] at hu
     rcases hu with hu|rfl
     ·exact a3 u hu
     ·exact ⟨_,_,rfl⟩
   | _=>exact dd fun fr=>by simp only [ak,htt,hnn]
 case mm mx x y=>refine .pure (fun _=>rfl) ?_ ?_<;>simp only [ak]<;>split<;>first|rfl|exact kW|exact dh
 case cpy x y =>
  simp only [HOp.vals,aS,aO,List.append_nil,zl003] at hv hD
  obtain ⟨a1,_,_⟩:=TN (D:=D) (fl:=true) (sz:=1) hv.2.1 (fun x hx=>hD x (.inr hx)) hL
  cases x<;>first|exact .dead fun _=>rfl|skip
  rename_i id q sz' off n
  refine ⟨(ak L 0 (.cpy (.ref id q sz' off n) y)).2.1,?_,(fun h=>by cases h),?_,.inl ⟨_,_,?_,fun _=>rfl⟩⟩
  ·intro u hu
   simp only [ak,zl009] at hu
   subst hu
   exact ⟨hD id (.inl (by simp [HV.deep])),Cc (PM (o6 (hL id) q) (xW (H5 (o6 (hL id) q)) (fun v hv=>a1 v (Es hv)) off)) (hL id) q⟩
  ·intro _ u hu
   simp only [ak,zl009] at hu
   subst hu
   exact ⟨_,_,rfl⟩
  ·exact kW
 case slz sz x =>
  cases x<;>first|exact .dead fun _=>rfl|exact .mk (mk:=fun fr=>.ref fr [] sz 0 0) (us0:=[]) (T:=.osl sz 0 []) (q:=True) (fun _=>rfl) (.inl ⟨_,_,rfl⟩) (by simp) (by simp) (fun _=>rfl) (by simp)
 case isn ne x=>refine .pure (fun _=>?_) ?_ ?_<;>simp only [ak]<;>cases x<;>first|rfl|exact qX|exact dh
 case mnil ne x =>
  cases x<;>first|exact .dead fun _=>rfl|exact .pure (fun _=>rfl) rfl qX|skip
  rename_i id q
  generalize hnn:aB (L id) q=nd
  cases nd with
  | omap m ks cs=>exact .pure (fun _=>by simp only [ak]) (by simp only [ak,hnn]) (by simp only [ak,hnn];exact qX)
  | _=>exact .dead (q:=False) fun fr=>by simp only [ak,hnn]
 case mkmap kk=>exact .mk (mk:=fun fr=>.mref fr []) (us0:=[]) (T:=.omap ⟨kk,none⟩ [] []) (q:=True) (fun _=>rfl) (.inr (.inr rfl)) (by simp) (by simp) (fun _=>rfl) (by simp)
 case mlook ok kk z x k =>
  simp only [HOp.vals,aS] at hv
  simp only [HOp.lits,aS] at hl
  refine .pure (fun _=>rfl) ?_ ?_
  ·simp only [ak]
   repeat' split
   all_goals rfl
  ·simp only [ak]
   split
   ·exact uD hl.1
   ·rename_i m ks cs
    have h1:=hv.1
    simp only [HY] at h1
    split
    ·exact uD (h1.getD _)
    ·exact uD hl.1
   ·rename_i id q
    have h1:=hv.1
    simp only [Di] at h1
    have h2:=o6 (hL id) q
    split
    ·rename_i m ks cs hnn
     rw [hnn] at h2
     simp only [vP] at h2
     split
     ·exact uD (Ns h1 (h2.getD _))
     ·exact uD hl.1
    ·exact dh
   ·exact dh
 case mset kk x k v =>
  simp only [HOp.vals,aS,aO,List.append_nil,zl003] at hv hD
  cases x<;>first|exact .dead fun _=>rfl|skip
  rename_i id q
  obtain ⟨a1,a2,a3⟩:=bV (D:=D) hv.2.2.1 (fun x hx=>hD x (.inr (.inr hx))) hL
  have ht:=CU hL a2 id
  generalize hnn:aB (Lk.upd L (takeC L v).2.1 id) q=nd
  cases nd with
  | omap m ks cs =>
   have hcs:=o6 ht q
   rw [hnn] at hcs
   simp only [vP] at hcs
   refine ⟨(takeC L v).2.1++[.kill id q.length]++[.put id (dI (zS m ks cs k (takeC L v).1) (Lk.upd L (takeC L v).2.1 id) q)],?_,(fun h=>by cases h),(fun h=>by cases h),.inl ⟨.dead,(takeC L v).2.2/\m.kind=kk/\dO kk k=true,dh,fun fr=>by simp only [ak,hnn]⟩⟩
   intro u hu
   simp only [zl003,zl009] at hu
   rcases hu with (hu|rfl)|rfl
   ·exact a2 u hu
   ·trivial
   ·exact ⟨hD id (.inl (by simp [HV.deep])),Cc (WF hcs a1) ht q⟩
  | _=>exact .dead (q:=False) fun fr=>by simp only [ak,hnn]
 case mlen x =>
  cases x<;>first|exact .dead fun _=>rfl|exact .pure (fun _=>rfl) rfl kW|skip
  rename_i id q
  generalize hnn:aB (L id) q=nd
  cases nd with
  | omap m ks cs=>exact .pure (fun _=>by simp only [ak]) (by simp only [ak,hnn]) (by simp only [ak,hnn];exact kW)
  | _=>exact .dead (q:=False) fun fr=>by simp only [ak,hnn]
 case mrng=>exact .dead fun _=>rfl
 case mnxt=>exact .dead fun _=>rfl
 case ment=>exact .dead fun _=>rfl
 case tostr x =>
  cases x<;>first|exact .dead fun _=>rfl|exact .pure (fun _=>rfl) rfl Zr|exact .pure (fun _=>rfl) Ju J7|skip
  rename_i id q sz off n
  generalize hnn:aB (L id) q=nd
  cases nd with
  | osl s m cs=>exact .pure (fun _=>by simp only [ak]) (by simp only [ak,hnn];exact Ju) (by simp only [ak,hnn];exact J7)
  | _=>exact .dead (q:=False) fun fr=>by simp only [ak,hnn]
 case call=>exact .dead fun _=>rfl
 case callv=>exact .dead fun _=>rfl
 case bi=>exact .dead fun _=>rfl
 case bad=>exact .dead fun _=>rfl
theorem Ho {op:HOp HV} (h:∀x∈aO op.vals,L x=L' x) (fr:Nat):ak L fr op=ak L' fr op:=by
 cases op<;>first|rfl|skip
 case newv sz x =>
  simp only [HOp.vals,aO,List.append_nil] at h
  simp only [ak,yB (L:=L) (L':=L') (l:=cellsOf x) fun x hx=>h x (ui hx)]
 case bsl sz n xs=>simp only [ak,yB (L:=L) (L':=L') (l:=xs.flatMap cellsOf) fun x hx=>h x (DR hx)]
 case load a sz x =>
  cases x<;>first|rfl|skip
  rename_i id q off
  have:=h id (by simp [HOp.vals,aO,HV.deep])
  simp only [ak,this]
 case store fl sz x y =>
  cases x<;>first|rfl|skip
  rename_i id q off
  simp only [HOp.vals,aO,List.append_nil,zl003] at h
  have e1:=yB (L:=L) (L':=L') (l:=cellsOf y) fun x hx=>h x (.inr (ui hx))
  have e2:Lk.upd L (iC L' (cellsOf y)).2.1 id=Lk.upd L' (iC L' (cellsOf y)).2.1 id:=AB (.inr (h id (.inl (by simp [HV.deep]))))
  simp only [ak,e1,e2]
 case app fl sz bytes x y =>
  simp only [HOp.vals,aO,List.append_nil,zl003] at h
  have e1:=H7 (L:=L) (L':=L') (fl:=fl) (sz:=sz) (v:=y) fun x hx=>h x (.inr hx)
  cases x<;>(try (simp only [ak,e1];done))<;>try rfl
  rename_i id q sz' off n
  have e2:Lk.upd L (dN L' fl sz y).2.2.1 id=Lk.upd L' (dN L' fl sz y).2.2.1 id:=AB (.inr (h id (.inl (by simp [HV.deep]))))
  simp only [ak,e1,e2]
 case cpy x y =>
  simp only [HOp.vals,aO,List.append_nil,zl003] at h
  have e1:=H7 (L:=L) (L':=L') (fl:=true) (sz:=1) (v:=y) fun x hx=>h x (.inr hx)
  cases x<;>(try (simp only [ak,e1];done))<;>try rfl
  rename_i id q sz' off n
  have e2:=h id (.inl (by simp [HV.deep]))
  simp only [ak,e1,e2]
 case mnil ne x =>
  cases x<;>first|rfl|skip
  rename_i id q
  have:=h id (by simp [HOp.vals,aO,HV.deep])
  simp only [ak,this]
 case mlook ok kk z x k =>
  cases x<;>first|rfl|skip
  rename_i id q
  have:=h id (by simp [HOp.vals,aO,HV.deep])
  simp only [ak,this]
 case mset kk x k v =>
  cases x<;>first|rfl|skip
  rename_i id q
  simp only [HOp.vals,aO,List.append_nil,zl003] at h
  have e1:=dK (L:=L) (L':=L') (v:=v) fun x hx=>h x (.inr (.inr hx))
  have e2:Lk.upd L (takeC L' v).2.1 id=Lk.upd L' (takeC L' v).2.1 id:=AB (.inr (h id (.inl (by simp [HV.deep]))))
  simp only [ak,e1,e2]
 case mlen x =>
  cases x<;>first|rfl|skip
  rename_i id q
  have:=h id (by simp [HOp.vals,aO,HV.deep])
  simp only [ak,this]
 case tostr x =>
  cases x<;>first|rfl|skip
  rename_i id q sz off n
  have:=h id (by simp [HOp.vals,aO,HV.deep])
  simp only [ak,this]
theorem TR {op:HOp HV} (h:op.touch=false) (fr:Nat):ak L fr op=ak L' fr op:=by
 cases op<;>first|rfl|cases h
end
mutual
def HV.rn (g:Nat->Nat):HV->HV
 | .ref i p sz o n=>.ref (g i) p sz o n
 | .pref i p o=>.pref (g i) p o
 | .mref i p=>.mref (g i) p
 | .agg cs=>.agg (rnL g cs)
 | .tup cs=>.tup (rnL g cs)
 | .fn f cs=>.fn f (rnL g cs)
 | v=>v
def rnL (g:Nat->Nat):List HV->List HV
 | []=>[]
 | v::r=>v.rn g::rnL g r
end
def L6 (g:Nat->Nat):Upd->Upd
 | .put id t=>.put (g id) t
 | .kill id n=>.kill (g id) n
mutual
theorem HV.rn_id (g:Nat->Nat):∀v:HV,v.inn (fun i=>g i=i)->v.rn g=v
 | .ref i p sz o n,h=>by simp only [Ld] at h;simp only [HV.rn,h]
 | .pref i p o,h=>by simp only [BC] at h;simp only [HV.rn,h]
 | .mref i p,h=>by simp only [Di] at h;simp only [HV.rn,h]
 | .agg cs,h=>by simp only [uM] at h;simp only [HV.rn,Lu g cs h]
 | .tup cs,h=>by simp only [zM] at h;simp only [HV.rn,Lu g cs h]
 | .fn f cs,h=>by simp only [D5] at h;simp only [HV.rn,Lu g cs h]
 | .int ..,_=>rfl
 | .bool _,_=>rfl
 | .str _,_=>rfl
 | .nils,_=>rfl
 | .nilp,_=>rfl
 | .nilf,_=>rfl
 | .sl ..,_=>rfl
 | .osl ..,_=>rfl
 | .ptr ..,_=>rfl
 | .optr _,_=>rfl
 | .nilm,_=>rfl
 | .rmap ..,_=>rfl
 | .omap ..,_=>rfl
 | .oitr ..,_=>rfl
 | .dead,_=>rfl
theorem Lu (g:Nat->Nat):∀l:List HV,innL (fun i=>g i=i) l->rnL g l=l
 | [],_=>rfl
 | v::r,h=>by simp only [aS] at h;simp only [rnL,HV.rn_id g v h.1,Lu g r h.2]
end
def aeS (fr fr':Nat) (g:Nat->Nat) (x y:HV×List Upd×Nat):Prop :=
 fr<=x.2.2/\y.2.2+fr=x.2.2+fr'/\((∀k,fr<=k->k<x.2.2->g k=k - fr+fr')->y.1=x.1.rn g/\y.2.1=x.2.1.map (L6 g)) /\
  x.1.inn (fun i=>fr<=i/\i<x.2.2)/\∀u∈x.2.1,∃id t,u=.put id t/\fr<=id/\id<x.2.2/\t.deep=[]
def acg (fr fr':Nat) (g:Nat->Nat) (x y:List HV×List Upd×Nat):Prop :=
 fr<=x.2.2/\y.2.2+fr=x.2.2+fr'/\((∀k,fr<=k->k<x.2.2->g k=k - fr+fr')->y.1=rnL g x.1/\y.2.1=x.2.1.map (L6 g)) /\
  innL (fun i=>fr<=i/\i<x.2.2) x.1/\∀u∈x.2.1,∃id t,u=.put id t/\fr<=id/\id<x.2.2/\t.deep=[]
theorem HV.inn_mono {p q:Nat->Prop} {v:HV} (h:v.inn p) (hpq:∀x,p x->q x):v.inn q:=fun x hx=>hpq x (h x hx)
theorem innL.mono {p q:Nat->Prop} {v:List HV} (h:innL p v) (hpq:∀x,p x->q x):innL q v:=fun x hx=>HV.inn_mono (h x hx) hpq
mutual
theorem vN (g:Nat->Nat):∀ (v:HV) (fr fr':Nat),v.deep=[]->aeS fr fr' g (unpack fr v) (unpack fr' v)
 | .osl sz n cs,fr,fr',hd=>by
  refine ⟨by simp [unpack],by simp [unpack];omega,fun h=>?_,by simp [unpack],by intro u hu;simp only [unpack,zl009] at hu;exact ⟨_,_,hu,bg _,Cb _,hd⟩⟩
  have:=h fr (bg _) (by simp [unpack])
  simp [unpack,HV.rn,L6,this]
 | .optr cs,fr,fr',hd=>by
  refine ⟨by simp [unpack],by simp [unpack];omega,fun h=>?_,by simp [unpack],by intro u hu;simp only [unpack,zl009] at hu;exact ⟨_,_,hu,bg _,Cb _,hd⟩⟩
  have:=h fr (bg _) (by simp [unpack])
  simp [unpack,HV.rn,L6,this]
 | .omap m ks cs,fr,fr',hd=>by
  refine ⟨by simp [unpack],by simp [unpack];omega,fun h=>?_,by simp [unpack],by intro u hu;simp only [unpack,zl009] at hu;exact ⟨_,_,hu,bg _,Cb _,hd⟩⟩
  have:=h fr (bg _) (by simp [unpack])
  simp [unpack,HV.rn,L6,this]
 | .oitr b s l c,fr,fr',hd=>by
  refine ⟨by simp [unpack],by simp [unpack];omega,fun h=>?_,by simp [unpack],by intro u hu;simp only [unpack,zl009] at hu;exact ⟨_,_,hu,bg _,Cb _,hd⟩⟩
  have:=h fr (bg _) (by simp [unpack])
  simp [unpack,HV.rn,L6,this]
 | .agg cs,fr,fr',hd=>by
  obtain ⟨h1,h2,h3,h4,h5⟩:=wX g cs fr fr' hd
  exact ⟨h1,h2,fun h=>by have:=h3 h;simp only [unpack,HV.rn];exact ⟨by rw [this.1],this.2⟩,by simpa [unpack] using h4,h5⟩
 | .tup cs,fr,fr',hd=>by
  obtain ⟨h1,h2,h3,h4,h5⟩:=wX g cs fr fr' hd
  exact ⟨h1,h2,fun h=>by have:=h3 h;simp only [unpack,HV.rn];exact ⟨by rw [this.1],this.2⟩,by simpa [unpack] using h4,h5⟩
 | .fn f cs,fr,fr',hd=>by
  obtain ⟨h1,h2,h3,h4,h5⟩:=wX g cs fr fr' hd
  exact ⟨h1,h2,fun h=>by have:=h3 h;simp only [unpack,HV.rn];exact ⟨by rw [this.1],this.2⟩,by simpa [unpack] using h4,h5⟩
 | .ref i p sz o n,fr,fr',hd=>by cases hd
 | .pref i p o,fr,fr',hd=>by cases hd
 | .mref i p,fr,fr',hd=>by cases hd
 | .nilm,fr,fr',hd=>⟨bg _,lT _ _,fun _=>⟨rfl,rfl⟩,by simp [unpack],by simp [unpack]⟩
 | .int ..,fr,fr',hd=>⟨bg _,lT _ _,fun _=>⟨rfl,rfl⟩,by simp [unpack],by simp [unpack]⟩
 | .bool _,fr,fr',hd=>⟨bg _,lT _ _,fun _=>⟨rfl,rfl⟩,by simp [unpack],by simp [unpack]⟩
 | .str _,fr,fr',hd=>⟨bg _,lT _ _,fun _=>⟨rfl,rfl⟩,by simp [unpack],by simp [unpack]⟩
 | .nils,fr,fr',hd=>⟨bg _,lT _ _,fun _=>⟨rfl,rfl⟩,by simp [unpack],by simp [unpack]⟩
 | .nilp,fr,fr',hd=>⟨bg _,lT _ _,fun _=>⟨rfl,rfl⟩,by simp [unpack],by simp [unpack]⟩
 | .nilf,fr,fr',hd=>⟨bg _,lT _ _,fun _=>⟨rfl,rfl⟩,by simp [unpack],by simp [unpack]⟩
 | .dead,fr,fr',hd=>⟨bg _,lT _ _,fun _=>⟨rfl,rfl⟩,by simp [unpack],by simp [unpack]⟩
 | .sl n cs,fr,fr',hd=>⟨bg _,lT _ _,fun _=>⟨rfl,rfl⟩,(by intro x hx;simp only [unpack] at hx;rw [hd] at hx;cases hx),(by simp [unpack])⟩
 | .ptr cs o,fr,fr',hd=>⟨bg _,lT _ _,fun _=>⟨rfl,rfl⟩,(by intro x hx;simp only [unpack] at hx;rw [hd] at hx;cases hx),(by simp [unpack])⟩
 | .rmap m ks cs,fr,fr',hd=>⟨bg _,lT _ _,fun _=>⟨rfl,rfl⟩,(by intro x hx;simp only [unpack] at hx;rw [hd] at hx;cases hx),(by simp [unpack])⟩
theorem wX (g:Nat->Nat):∀ (l:List HV) (fr fr':Nat),aO l=[]->acg fr fr' g (aW fr l) (aW fr' l)
 | [],fr,fr',hd=>⟨bg _,lT _ _,fun _=>⟨rfl,rfl⟩,by simp [aW],by simp [aW]⟩
 | v::r,fr,fr',hd=>by
  simp only [aO,List.append_eq_nil_iff] at hd
  obtain ⟨a1,a2,a3,a4,a5⟩:=vN g v fr fr' hd.1
  obtain ⟨b1,b2,b3,b4,b5⟩:=wX g r (unpack fr v).2.2 (unpack fr' v).2.2 hd.2
  refine ⟨by simp only [aW];omega,by simp only [aW];omega,fun h=>?_,?_,?_⟩
  ·simp only [aW] at h ⊢
   obtain ⟨c1,c2⟩:=a3 fun k h1 h2=>h k h1 (by omega)
   obtain ⟨c3,c4⟩:=b3 fun k h1 h2=>by rw [h k (by omega) h2];omega
   simp only [rnL,c1,c2,c3,c4,qj,and_self]
  ·simp only [aW,aS]
   exact ⟨HV.inn_mono a4 fun x hx=>by omega,b4.mono fun x hx=>by omega⟩
  ·intro u hu
   simp only [aW,zl003] at hu ⊢
   rcases hu with hu|hu
   ·obtain ⟨id,t,e,h1,h2,h3⟩:=a5 u hu
    exact ⟨id,t,e,h1,by omega,h3⟩
   ·obtain ⟨id,t,e,h1,h2,h3⟩:=b5 u hu
    exact ⟨id,t,e,by omega,h2,h3⟩
end
structure CF where
 ht:yD
 hm:yD
structure DS where
 rel:FuncId->List HV->HV->Prop
 own:FuncId->Bool
def DS.of (D:FuncId->List HV->HV->Prop):DS:=⟨D,fun _=>false⟩
def mr (C:CF) (D:DS) (M:Lk) (fr:Nat):HOp HV->Prop
 | .call f xs=>if D.own f=true then (aN M xs).2.2/\C.hm f (aN M xs).1 (D.rel f (aN M xs).1)/\∀r,D.rel f (aN M xs).1 r->r.deep=[]->(unpack fr r).2.2<=fr+stride
  else C.ht f (dM cZ M xs) (D.rel f (dM cZ M xs))/\∀r,D.rel f (dM cZ M xs) r->r.deep=[]->(aJ xs || r.noRd)=true/\(unpack fr r).2.2<=fr+stride
 | .callv (.fn f cap) xs=>C.ht f (dM cZ M (xs++cap)) (D.rel f (dM cZ M (xs++cap)))/\∀r,D.rel f (dM cZ M (xs++cap)) r->r.deep=[]->(aJ (xs++cap) || r.noRd)=true/\(unpack fr r).2.2<=fr+stride
 | op=>(ak M fr op).2.2
def oM (D:DS) (M:Lk) (fr:Nat) (e:HV×List Upd):HOp HV->Prop
 | .call f xs=>if D.own f=true then ∃r,D.rel f (aN M xs).1 r/\r.deep=[]/\e=((unpack fr r).1,(aN M xs).2.1++(unpack fr r).2.1)
  else ∃r,D.rel f (dM cZ M xs) r/\r.deep=[]/\e=((unpack fr r).1,(unpack fr r).2.1)
 | .callv (.fn f cap) xs=>∃r,D.rel f (dM cZ M (xs++cap)) r/\r.deep=[]/\e=((unpack fr r).1,(unpack fr r).2.1)
 | op=>e=((ak M fr op).1,(ak M fr op).2.1)
def gd (all:List af) (o:af) (S:Lk):Option Bool :=
 match o.guard with
 | none=>some true
 | some (j,want)=>match ((all[j]?).bind (·.dst)).map S with
  | some (.bool b)=>some (b==want)
  | some (.tup [])=>some false
  | _=>none
def gm (C:CF) (D:DS) (all:List af) (fr:Nat) (o:af) (S M:Lk):Prop :=
 match gd all o S with
 | some true=>mr C D M fr (o.op.map (bZ S))
 | some false=>True
 | none=>False
def jF (D:DS) (all:List af) (fr:Nat) (o:af) (S M:Lk) (e:HV×List Upd):Prop :=
 match gd all o S with
 | some true=>oM D M fr e (o.op.map (bZ S))
 | some false=>e=(.tup [],[])
 | none=>False
def oO (o:af) (e:HV×List Upd) (S:Lk):Lk:=fun t=>if o.dst=some t then e.1 else yR S e.2 t
def xN (e:HV×List Upd) (M:Lk):Lk:=Lk.upd M e.2
def fO (o:af) (S:Lk):List Nat:=aO (o.op.map (bZ S)).vals
def slotsOf:List HX->List Nat
 | []=>[]
 | .t i::r=>i::slotsOf r
 | .c _::r=>slotsOf r
def looks (all:List af) (o:af):List Nat :=
 slotsOf o.op.vals++(match o.guard with|none=>[]|some (j,_)=>((all[j]?).bind (·.dst)).toList)
theorem Uj {α β:Type} {g g':α->β} {o:HOp α} (h:∀x∈o.vals,g x=g' x):o.map g=o.map g':=by
 cases o<;>simp_all [HOp.vals,HOp.map]
 case bld zs ps =>
  intro a b c hx
  exact h c a b hx
 case slc sz x lo hi =>
  refine ⟨?_,?_⟩
  ·cases lo<;>simp_all
  ·cases hi<;>simp_all
theorem UO {S S':Lk} {l:List HX} (h:∀t∈slotsOf l,S t=S' t):∀x∈l,bZ S x=bZ S' x:=by
 induction l with
 | nil=>simp
 | cons y r ih =>
  intro x hx
  cases y with
  | t i =>
   simp only [slotsOf,zl011] at h
   rcases zl011.1 hx with rfl|hx
   ·exact h i (.inl rfl)
   ·exact ih (fun t ht=>h t (.inr ht)) x hx
  | c v =>
   rcases zl011.1 hx with rfl|hx
   ·rfl
   ·exact ih h x hx
theorem mM {all:List af} {o:af} {S S':Lk} (h:∀t∈looks all o,S t=S' t):o.op.map (bZ S)=o.op.map (bZ S') :=
 Uj (UO fun t ht=>h t (by simp [looks,ht]))
theorem Ci {all:List af} {o:af} {S S':Lk} (h:∀t∈looks all o,S t=S' t):gd all o S=gd all o S':=by
 unfold gd
 cases hg:o.guard with
 | none=>rfl
 | some jw =>
  obtain ⟨j,want⟩:=jw
  simp only
  cases hd:(all[j]?).bind (·.dst) with
  | none=>rfl
  | some d =>
   simp only [iq]
   rw [h d (by simp [looks,hg,hd])]
mutual
theorem PZ {T:Nat->Bool} {L L':Lk}:∀v:HV,(∀x∈v.deep,L x=L' x)->v.thaw T L=v.thaw T L'
 | .ref i p sz o n,h=>by have:=h i (by simp [HV.deep]);simp only [HV.thaw,this]
 | .pref i p o,h=>by have:=h i (by simp [HV.deep]);simp only [HV.thaw,this]
 | .mref i p,h=>by have:=h i (by simp [HV.deep]);simp only [HV.thaw,this]
 | .agg cs,h=>by simp only [HV.thaw,kP cs h]
 | .tup cs,h=>by simp only [HV.thaw,kP cs h]
 | .fn f cs,h=>by simp only [HV.thaw,kP cs h]
 | .int ..,_=>rfl
 | .bool _,_=>rfl
 | .str _,_=>rfl
 | .nils,_=>rfl
 | .nilp,_=>rfl
 | .nilf,_=>rfl
 | .sl ..,_=>rfl
 | .osl ..,_=>rfl
 | .ptr ..,_=>rfl
 | .optr _,_=>rfl
 | .nilm,_=>rfl
 | .rmap ..,_=>rfl
 | .omap ..,_=>rfl
 | .oitr ..,_=>rfl
 | .dead,_=>rfl
theorem kP {T:Nat->Bool} {L L':Lk}:∀l:List HV,(∀x∈aO l,L x=L' x)->dM T L l=dM T L' l
 | [],_=>rfl
 | v::r,h=>by
  simp only [aO,zl003] at h
  simp only [dM,PZ v fun x hx=>h x (.inl hx),kP r fun x hx=>h x (.inr hx)]
end
theorem kT (a b:List HV):aO (a++b)=aO a++aO b:=by
 induction a with
 | nil=>rfl
 | cons v a ih=>simp [aO,ih]
mutual
theorem X7 {p:Nat->Prop} {D:List Nat}:∀ (L:Lk) (v:HV),v.inn p->(∀x∈v.deep,x∈D)->(∀id,(L id).inn p)->(takeD L v).1.inn p/\(∀u∈(takeD L v).2.1,VR D p u)
 | L,.agg cs,h,hD,hL=>by
  simp only [uM] at h
  obtain ⟨a,b⟩:=sO L cs h hD hL
  exact ⟨by simpa [takeD] using a,b⟩
 | L,.tup cs,h,hD,hL=>by
  simp only [zM] at h
  obtain ⟨a,b⟩:=sO L cs h hD hL
  exact ⟨by simpa [takeD] using a,b⟩
 | L,.fn f cs,h,hD,hL=>by
  simp only [D5] at h
  obtain ⟨a,b⟩:=sO L cs h hD hL
  exact ⟨by simpa [takeD] using a,b⟩
 | L,.dead,_,_,_=>by simp [takeD]
 | L,.int ..,h,hD,hL=>by unfold takeD;exact ⟨(bV h hD hL).1,(bV h hD hL).2.1⟩
 | L,.bool _,h,hD,hL=>by unfold takeD;exact ⟨(bV h hD hL).1,(bV h hD hL).2.1⟩
 | L,.str _,h,hD,hL=>by unfold takeD;exact ⟨(bV h hD hL).1,(bV h hD hL).2.1⟩
 | L,.nils,h,hD,hL=>by unfold takeD;exact ⟨(bV h hD hL).1,(bV h hD hL).2.1⟩
 | L,.nilp,h,hD,hL=>by unfold takeD;exact ⟨(bV h hD hL).1,(bV h hD hL).2.1⟩
 | L,.nilf,h,hD,hL=>by unfold takeD;exact ⟨(bV h hD hL).1,(bV h hD hL).2.1⟩
 | L,.sl ..,h,hD,hL=>by unfold takeD;exact ⟨(bV h hD hL).1,(bV h hD hL).2.1⟩
 | L,.osl ..,h,hD,hL=>by unfold takeD;exact ⟨(bV h hD hL).1,(bV h hD hL).2.1⟩
 | L,.ptr ..,h,hD,hL=>by unfold takeD;exact ⟨(bV h hD hL).1,(bV h hD hL).2.1⟩
 | L,.optr _,h,hD,hL=>by unfold takeD;exact ⟨(bV h hD hL).1,(bV h hD hL).2.1⟩
 | L,.nilm,h,hD,hL=>by unfold takeD;exact ⟨(bV h hD hL).1,(bV h hD hL).2.1⟩
 | L,.rmap ..,h,hD,hL=>by unfold takeD;exact ⟨(bV h hD hL).1,(bV h hD hL).2.1⟩
 | L,.omap ..,h,hD,hL=>by unfold takeD;exact ⟨(bV h hD hL).1,(bV h hD hL).2.1⟩
 | L,.oitr ..,h,hD,hL=>by unfold takeD;exact ⟨(bV h hD hL).1,(bV h hD hL).2.1⟩
 | L,.mref ..,h,hD,hL=>by unfold takeD;exact ⟨(bV h hD hL).1,(bV h hD hL).2.1⟩
 | L,.ref ..,h,hD,hL=>by unfold takeD;exact ⟨(bV h hD hL).1,(bV h hD hL).2.1⟩
 | L,.pref ..,h,hD,hL=>by unfold takeD;exact ⟨(bV h hD hL).1,(bV h hD hL).2.1⟩
theorem sO {p:Nat->Prop} {D:List Nat}:∀ (L:Lk) (l:List HV),innL p l->(∀x∈aO l,x∈D)->(∀id,(L id).inn p)->innL p (aN L l).1/\(∀u∈(aN L l).2.1,VR D p u)
 | L,[],_,_,_=>by simp [aN]
 | L,v::r,h,hD,hL=>by
  simp only [aS] at h
  simp only [aO,zl003] at hD
  obtain ⟨a1,a2⟩:=X7 (D:=D) L v h.1 (fun x hx=>hD x (.inl hx)) hL
  obtain ⟨b1,b2⟩:=sO (D:=D) (Lk.upd L (takeD L v).2.1) r h.2 (fun x hx=>hD x (.inr hx)) (CU hL a2)
  simp only [aN,aS,zl003]
  exact ⟨⟨a1,b1⟩,fun u hu=>hu.elim (a2 u) (b2 u)⟩
end
mutual
theorem Oa:∀ (v:HV) {L L':Lk},(∀x∈v.deep,L x=L' x)->takeD L v=takeD L' v
 | .agg cs,L,L',h=>by unfold takeD;rw [mG cs h]
 | .tup cs,L,L',h=>by unfold takeD;rw [mG cs h]
 | .fn f cs,L,L',h=>by unfold takeD;rw [mG cs h]
 | .dead,_,_,_=>by simp [takeD]
 | .int ..,L,L',h=>by unfold takeD;exact dK h
 | .bool _,L,L',h=>by unfold takeD;exact dK h
 | .str _,L,L',h=>by unfold takeD;exact dK h
 | .nils,L,L',h=>by unfold takeD;exact dK h
 | .nilp,L,L',h=>by unfold takeD;exact dK h
 | .nilf,L,L',h=>by unfold takeD;exact dK h
 | .sl ..,L,L',h=>by unfold takeD;exact dK h
 | .osl ..,L,L',h=>by unfold takeD;exact dK h
 | .ptr ..,L,L',h=>by unfold takeD;exact dK h
 | .optr _,L,L',h=>by unfold takeD;exact dK h
 | .nilm,L,L',h=>by unfold takeD;exact dK h
 | .rmap ..,L,L',h=>by unfold takeD;exact dK h
 | .omap ..,L,L',h=>by unfold takeD;exact dK h
 | .oitr ..,L,L',h=>by unfold takeD;exact dK h
 | .mref ..,L,L',h=>by unfold takeD;exact dK h
 | .ref ..,L,L',h=>by unfold takeD;exact dK h
 | .pref ..,L,L',h=>by unfold takeD;exact dK h
theorem mG:∀ (l:List HV) {L L':Lk},(∀x∈aO l,L x=L' x)->aN L l=aN L' l
 | [],_,_,_=>rfl
 | v::r,L,L',h=>by
  simp only [aO,zl003] at h
  have e1:=Oa v (L:=L) (L':=L') fun x hx=>h x (.inl hx)
  simp only [aN,e1]
  rw [mG r (L:=Lk.upd L (takeD L' v).2.1) (L':=Lk.upd L' (takeD L' v).2.1) fun x hx=>AB (.inr (h x (.inr hx)))]
end
section
variable {C:CF} {D:DS} {all:List af} {M M' S S':Lk} {fr nx i:Nat}
theorem Oi {op:HOp HV} (h:op.touch=false\/∀x∈aO op.vals,M x=M' x):mr C D M fr op=mr C D M' fr op:=by
 rcases h with h|h
 ·cases op<;>first|cases h;done|exact congrArg (·.2.2) (TR (L:=M) (L':=M') h fr)
 ·cases op
  case call f xs=>simp only [mr,kP (L:=M) (L':=M') xs h,mG xs h]
  case callv x xs =>
   simp only [HOp.vals,aO,zl003] at h
   cases x
   case fn f cap =>
    have:=kP (T:=cZ) (L:=M) (L':=M') (xs++cap) fun x hx=>h x (by rw [kT,zl003] at hx;exact hx.symm)
    simp only [mr,this]
   all_goals rfl
  all_goals exact congrArg (·.2.2) (Ho (L:=M) (L':=M') h fr)
theorem Qo {op:HOp HV} {e:HV×List Upd} (h:op.touch=false\/∀x∈aO op.vals,M x=M' x):oM D M fr e op=oM D M' fr e op:=by
 rcases h with h|h
 ·cases op<;>first|cases h;done|exact congrArg (fun q:HV×List Upd×Prop=>e=(q.1,q.2.1)) (TR (L:=M) (L':=M') h fr)
 ·cases op
  case call f xs=>simp only [oM,kP (L:=M) (L':=M') xs h,mG xs h]
  case callv x xs =>
   simp only [HOp.vals,aO,zl003] at h
   cases x
   case fn f cap =>
    have:=kP (T:=cZ) (L:=M) (L':=M') (xs++cap) fun x hx=>h x (by rw [kT,zl003] at hx;exact hx.symm)
    simp only [oM,this]
   all_goals rfl
  all_goals exact congrArg (fun q:HV×List Upd×Prop=>e=(q.1,q.2.1)) (Ho (L:=M) (L':=M') h fr)
theorem uG {o:af} (hS:∀t∈looks all o,S t=S' t) (hM:o.op.touch=false\/∀x∈fO o S,M x=M' x):gm C D all fr o S M=gm C D all fr o S' M':=by
 unfold gm
 rw [Ci hS,mM hS]
 rw [fO,mM hS] at hM
 rw [Oi (M:=M) (M':=M') (by rw [HOp.touch_map];exact hM)]
theorem wH {o:af} {e:HV×List Upd} (hS:∀t∈looks all o,S t=S' t) (hM:o.op.touch=false\/∀x∈fO o S,M x=M' x):jF D all fr o S M e=jF D all fr o S' M' e:=by
 unfold jF
 rw [Ci hS,mM hS]
 rw [fO,mM hS] at hM
 rw [Qo (M:=M) (M':=M') (by rw [HOp.touch_map];exact hM)]
def Cm (nx i x:Nat):Prop:=nx+stride*i<=x/\x<nx+stride*(i+1)
def wK (nx:Nat) (X:Nat->Prop) (x:Nat):Prop:=x<nx\/∃k,X k/\Cm nx k x
structure Inv (nx:Nat) (X:Nat->Prop) (S M:Lk):Prop where
 slots:∀t,(S t).inn (wK nx X)
 trees:∀id,(M id).inn (wK nx X)
 alive:∀id,M id≠.dead->wK nx X id
theorem SE {i j x:Nat} (h1:Cm nx i x) (h2:Cm nx j x):i=j:=by
 unfold Cm stride at *;omega
theorem uo {X:Nat->Prop} {x:Nat} (h:wK nx X x) (hr:Cm nx i x):X i:=by
 rcases h with h|⟨k,hk,h⟩
 ·unfold Cm stride at hr;omega
 ·rw [SE hr h];exact hk
theorem pI {X Y:Nat->Prop} (h:∀k,X k->Y k) {x:Nat} (hx:wK nx X x):wK nx Y x:=hx.imp id fun ⟨k,hk,hr⟩=>⟨k,h k hk,hr⟩
def qL (o:af):Bool:=(aO o.op.lits).isEmpty&&o.op.vals.all fun|.c v=>v.deep.isEmpty|_=>true
theorem Dl {X:Nat->Prop} (hI:Inv nx X S M) {o:af} (hl:qL o=true):innL (wK nx X) (o.op.map (bZ S)).vals:=by
 rw [HOp.vals_map]
 intro v hv
 obtain ⟨x,hx,rfl⟩:=zl031.1 hv
 cases x with
 | t i=>exact hI.slots i
 | c v =>
  simp only [qL,bC,zl021] at hl
  have:=hl.2 _ hx
  simp only [EF] at this
  intro y hy
  simp only [bZ,this] at hy
  cases hy
theorem Xg {X:Nat->Prop} {o:af} (hl:qL o=true):innL (wK nx X) (o.op.map (bZ S)).lits:=by
 rw [HOp.lits_map,innL_iff]
 simp only [qL,bC,EF] at hl
 rw [hl.1]
 simp
theorem ZQ {X:Nat->Prop} {op:HOp HV} {e:HV×List Upd} (hv:innL (wK nx X) op.vals) (hl:innL (wK nx X) op.lits) (hT:∀id,(M id).inn (wK nx X)) (hs:mr C D M (nx+stride*i) op) (h:oM D M (nx+stride*i) e op) :
  e.1.inn (wK nx fun k=>X k\/k=i)/\(∀u∈e.2,ZP (wK nx fun k=>X k\/k=i) u)/\(∀x∈jG e.2,Cm nx i x\/(op.wrtO D.own=true/\x∈aO op.vals))/\(op.killer=false->∀u∈e.2,∃id t,u=.put id t):=by
 have up:∀x,wK nx X x->wK nx (fun k=>X k\/k=i) x:=fun x hx=>pI (fun k hk=>.inl hk) hx
 have r0:Cm nx i (nx+stride*i):=by unfold Cm stride;omega
 have call:∀ (f:FuncId) (xs:List HV) (args:List HV),(C.ht f args (D.rel f args)/\∀r,D.rel f args r->r.deep=[]->(aJ xs || r.noRd)=true/\(unpack (nx+stride*i) r).2.2<=nx+stride*i+stride)->(∃r,D.rel f args r/\r.deep=[]/\e=((unpack (nx+stride*i) r).1,(unpack (nx+stride*i) r).2.1)) ->
   e.1.inn (wK nx fun k=>X k\/k=i)/\(∀u∈e.2,ZP (wK nx fun k=>X k\/k=i) u)/\(∀x∈jG e.2,Cm nx i x)/\∀u∈e.2,∃id t,u=.put id t:=by
  rintro f xs args ⟨_,hb⟩ ⟨r,hr,hd,rfl⟩
  obtain ⟨_,_,_,h4,h5⟩:=vN id r (nx+stride*i) (nx+stride*i) hd
  have h6:=(hb r hr hd).2
  have R:∀x,nx+stride*i<=x->x<(unpack (nx+stride*i) r).2.2->Cm nx i x:=fun x h1 h2=>⟨h1,by unfold stride at *;omega⟩
  refine ⟨HV.inn_mono h4 fun x hx=>.inr ⟨i,.inr rfl,R x hx.1 hx.2⟩,?_,?_,?_⟩
  ·intro u hu
   obtain ⟨id,t,rfl,h1,h2,h3⟩:=h5 u hu
   exact ⟨.inr ⟨i,.inr rfl,R id h1 h2⟩,fun x hx=>by rw [h3] at hx;cases hx⟩
  ·intro x hx
   generalize (unpack (nx+stride*i) r).2.1=us at h5 hx
   induction us with
   | nil=>cases hx
   | cons u us ih =>
    obtain ⟨id,t,rfl,h1,h2,h3⟩:=h5 u (by simp)
    simp only [jG,zl011] at hx
    rcases hx with rfl|hx
    ·exact R _ h1 h2
    ·exact ih (fun u hu=>h5 u (by simp [hu])) hx
  ·intro u hu
   obtain ⟨id,t,rfl,_⟩:=h5 u hu
   exact ⟨id,t,rfl⟩
 have plain:e=((ak M (nx+stride*i) op).1,(ak M (nx+stride*i) op).2.1)->e.1.inn (wK nx fun k=>X k\/k=i)/\(∀u∈e.2,ZP (wK nx fun k=>X k\/k=i) u)/\(∀x∈jG e.2,Cm nx i x\/(op.wrtO D.own=true/\x∈aO op.vals))/\(op.killer=false->∀u∈e.2,∃id t,u=.put id t):=by
  intro he
  obtain ⟨us0,a1,a2,a3,a4⟩:=Iq (L:=M) (op:=op) (D:=aO op.vals) hv (fun x hx=>hx) hl hT
  have hv':=innL_iff.1 hv
  have b1:∀u∈us0,ZP (wK nx fun k=>X k\/k=i) u:=fun u hu=>by
   have:=a1 u hu
   cases u with
   | put id t=>exact ⟨up _ (hv' id this.1),HV.inn_mono this.2 up⟩
   | kill=>trivial
  have b2:∀x∈jG us0,Cm nx i x\/(op.wrtO D.own=true/\x∈aO op.vals):=by
   intro x hx
   right
   refine ⟨?_,?_⟩
   ·cases hw:op.wrt with
    | true=>exact HOp.wrtO_of D.own hw
    | false=>rw [a2 hw] at hx;cases hx
   ·clear a2 a3 a4 b1
    induction us0 with
    | nil=>cases hx
    | cons u us ih =>
     have ih:=ih (fun u hu=>a1 u (by simp [hu]))
     cases u with
     | put id t =>
      simp only [jG,zl011] at hx
      rcases hx with rfl|hx
      ·exact (a1 (.put x t) (by simp)).1
      ·exact ih hx
     | kill=>exact ih hx
  rcases a4 with ⟨v,q,h1,h2⟩|⟨mk,T,q,h0,h1,h2⟩
  ·rw [h2] at he
   subst he
   exact ⟨HV.inn_mono h1 up,b1,b2,a3⟩
  ·rw [h2] at he
   subst he
   refine ⟨?_,?_,?_,?_⟩
   ·rcases h0 with ⟨sz,n,rfl⟩|rfl|rfl
    ·simp only [Ld];exact .inr ⟨i,.inr rfl,r0⟩
    ·simp only [BC];exact .inr ⟨i,.inr rfl,r0⟩
    ·simp only [Di];exact .inr ⟨i,.inr rfl,r0⟩
   ·intro u hu
    simp only [zl003,zl009] at hu
    rcases hu with hu|rfl
    ·exact b1 u hu
    ·exact ⟨.inr ⟨i,.inr rfl,r0⟩,HV.inn_mono h1 up⟩
   ·intro x hx
    simp only [EL,jG,zl003,zl009] at hx
    rcases hx with hx|rfl
    ·exact b2 x hx
    ·exact .inl r0
   ·intro hk u hu
    simp only [zl003,zl009] at hu
    rcases hu with hu|rfl
    ·exact a3 hk u hu
    ·exact ⟨_,_,rfl⟩
 have w:(e.1.inn (wK nx fun k=>X k\/k=i)/\(∀u∈e.2,ZP (wK nx fun k=>X k\/k=i) u)/\(∀x∈jG e.2,Cm nx i x)/\∀u∈e.2,∃id t,u=.put id t)->e.1.inn (wK nx fun k=>X k\/k=i)/\(∀u∈e.2,ZP (wK nx fun k=>X k\/k=i) u)/\(∀x∈jG e.2,Cm nx i x\/(op.wrtO D.own=true/\x∈aO op.vals))/\(op.killer=false->∀u∈e.2,∃id t,u=.put id t) :=
  fun ⟨a,b,c,d⟩=>⟨a,b,fun x hx=>.inl (c x hx),fun _=>d⟩
 cases op
 case call f xs =>
  simp only [mr] at hs
  simp only [oM] at h
  by_cases ho:D.own f=true
  ·rw [if_pos ho] at hs h
   obtain ⟨r,hr,hd,rfl⟩:=h
   have hv:innL (wK nx X) xs:=hv
   obtain ⟨_,a2⟩:=sO (D:=aO xs) M xs hv (fun x hx=>hx) hT
   have a3:=oI M xs
   obtain ⟨_,_,_,h4,h5⟩:=vN id r (nx+stride*i) (nx+stride*i) hd
   have h6:=hs.2.2 r hr hd
   have R:∀x,nx+stride*i<=x->x<(unpack (nx+stride*i) r).2.2->Cm nx i x:=fun x h1 h2=>⟨h1,by unfold stride at *;omega⟩
   refine ⟨HV.inn_mono h4 fun x hx=>.inr ⟨i,.inr rfl,R x hx.1 hx.2⟩,fun u hu=>?_,fun x hx=>?_,fun _ u hu=>?_⟩
   ·rcases zl003.1 hu with hu|hu
    ·have:=a2 u hu
     cases u with
     | put id t=>exact ⟨up _ (innL_iff.1 hv id this.1),HV.inn_mono this.2 up⟩
     | kill=>trivial
    ·obtain ⟨id,t,rfl,h1,h2,h3⟩:=h5 u hu
     exact ⟨.inr ⟨i,.inr rfl,R id h1 h2⟩,fun x hx=>by rw [h3] at hx;cases hx⟩
   ·simp only [EL,zl003] at hx
    rcases hx with hx|hx
    ·refine .inr ⟨ho,?_⟩
     show x∈aO xs
     generalize (aN M xs).2.1=us at a2 hx
     induction us with
     | nil=>cases hx
     | cons u us ih =>
      have ih:=ih (fun u hu=>a2 u (by simp [hu]))
      cases u with
      | put id t =>
       simp only [jG,zl011] at hx
       rcases hx with rfl|hx
       ·exact (a2 (.put x t) (by simp)).1
       ·exact ih hx
      | kill=>exact ih hx
    ·left
     generalize (unpack (nx+stride*i) r).2.1=us at h5 hx
     induction us with
     | nil=>cases hx
     | cons u us ih =>
      obtain ⟨id,t,rfl,h1,h2,h3⟩:=h5 u (by simp)
      simp only [jG,zl011] at hx
      rcases hx with rfl|hx
      ·exact R _ h1 h2
      ·exact ih (fun u hu=>h5 u (by simp [hu])) hx
   ·rcases zl003.1 hu with hu|hu
    ·exact a3 u hu
    ·obtain ⟨id,t,rfl,_⟩:=h5 u hu
     exact ⟨id,t,rfl⟩
  ·rw [if_neg ho] at hs h
   exact w (call f xs _ hs h)
 case callv x xs =>
  cases x
  case fn f cap=>exact w (call f (xs++cap) _ hs h)
  all_goals exact plain h
 all_goals exact plain h
mutual
theorem BO {p:Nat->Prop} (id len:Nat):∀v:HV,v.inn p->(v.kill id len).inn p
 | .ref i q sz o n,h=>by simp only [HV.kill];split;exact dh;exact h
 | .pref i q o,h=>by simp only [HV.kill];split;exact dh;exact h
 | .mref i q,h=>by simp only [HV.kill];split;exact dh;exact h
 | .agg cs,h=>by simp only [HV.kill,uM] at h ⊢;exact zD id len cs h
 | .tup cs,h=>by simp only [HV.kill,zM] at h ⊢;exact zD id len cs h
 | .fn f cs,h=>by simp only [HV.kill,D5] at h ⊢;exact zD id len cs h
 | .int ..,h=>h
 | .bool _,h=>h
 | .str _,h=>h
 | .nils,h=>h
 | .nilp,h=>h
 | .nilf,h=>h
 | .sl ..,h=>h
 | .osl ..,h=>h
 | .ptr ..,h=>h
 | .optr _,h=>h
 | .nilm,h=>h
 | .rmap ..,h=>h
 | .omap ..,h=>h
 | .oitr ..,h=>h
 | .dead,h=>h
theorem zD {p:Nat->Prop} (id len:Nat):∀l:List HV,innL p l->innL p (tV id len l)
 | [],h=>h
 | v::r,h=>by simp only [tV,aS] at h ⊢;exact ⟨BO id len v h.1,zD id len r h.2⟩
end
theorem Tu {p:Nat->Prop} {us:List Upd} {S:Lk} (h:∀t,(S t).inn p) (t:Nat):(yR S us t).inn p:=by
 induction us generalizing S with
 | nil=>exact h t
 | cons u us ih =>
  cases u with
  | put=>exact ih h
  | kill id len=>exact ih fun t=>BO id len _ (h t)
theorem um {X:Nat->Prop} (hI:Inv nx X S M) {o:af} (hl:qL o=true) {e:HV×List Upd} (hs:gm C D all (nx+stride*i) o S M) (h:jF D all (nx+stride*i) o S M e) :
  e.1.inn (wK nx fun k=>X k\/k=i)/\(∀u∈e.2,ZP (wK nx fun k=>X k\/k=i) u)/\(∀x∈jG e.2,Cm nx i x\/(o.op.wrtO D.own=true/\x∈fO o S))/\(o.op.killer=false->∀u∈e.2,∃id t,u=.put id t):=by
 unfold gm at hs
 unfold jF at h
 split at hs
 ·rename_i hg
  rw [hg] at h
  have:=ZQ (Dl hI hl) (Xg hl) hI.trees hs h
  rw [HOp.wrtO_map,HOp.killer_map] at this
  exact this
 ·rename_i hg
  rw [hg] at h
  subst h
  simp [jG]
 ·exact hs.elim
theorem Inv.step {X:Nat->Prop} (hI:Inv nx X S M) {o:af} {e:HV×List Upd} (h1:e.1.inn (wK nx fun k=>X k\/k=i)) (h2:∀u∈e.2,ZP (wK nx fun k=>X k\/k=i) u):Inv nx (fun k=>X k\/k=i) (oO o e S) (xN e M):=by
 have up:∀x,wK nx X x->wK nx (fun k=>X k\/k=i) x:=fun x hx=>pI (fun k hk=>.inl hk) hx
 refine ⟨fun t=>?_,fun id=>?_,fun id hid=>?_⟩
 ·unfold oO
  split
  ·exact h1
  ·exact Tu (fun t=>HV.inn_mono (hI.slots t) up) t
 ·exact Zz (fun id=>HV.inn_mono (hI.trees id) up) h2 id
 ·by_cases ht:id∈jG e.2
  ·generalize e.2=us at h2 ht
   induction us with
   | nil=>cases ht
   | cons u us ih =>
    cases u with
    | put j t =>
     simp only [jG,zl011] at ht
     rcases ht with rfl|ht
     ·exact (h2 (.put id t) (by simp)).1
     ·exact ih (fun u hu=>h2 u (by simp [hu])) ht
    | kill=>exact ih (fun u hu=>h2 u (by simp [hu])) ht
  ·unfold xN at hid
   rw [qJ ht] at hid
   exact up _ (hI.alive id hid)
end
def wo (masks:List Nat) (k i:Nat):Bool:=(masks.getD i 0).testBit k
def yI (all:List af) (x y:af):Bool :=
 (match x.dst with|some d=>!(looks all y).contains d&&y.dst != some d|none=>true)&&(match y.dst with|some d=>!(looks all x).contains d|none=>true)
def vT (own:FuncId->Bool) (x y:af):Bool:=(x.op.wrtO own&&y.op.touch) || (y.op.wrtO own&&x.op.touch)
def VH (x y:af):Bool:=(x.op.wrt&&y.op.touch) || (y.op.wrt&&x.op.touch)
theorem Ik (x y:af):vT (fun _=>false) x y=VH x y:=by simp only [vT,VH,HOp.wrtO_no]
def yx (o:af):Bool:=match o.op,o.guard with
 | .ext (.t _) _,none=>true
 | _,_=>false
def Ib (all:List af) (x y:af):Bool:=yI all x y&&(yx x || yx y || (!x.op.killer&&!y.op.killer))
def V9 (masks:List Nat) (all:List af) (i:Nat) (o:af):Bool :=
 decide (masks.getD i 0<2 ^ i)&&qL o&&(List.range i).all fun k=>wo masks k i || (match all[k]? with|some q=>Ib all q o|none=>false)
def ql (masks:List Nat) (all:List af):Bool :=
 (List.range all.length).all fun i=>match all[i]? with|some o=>V9 masks all i o|none=>false
theorem uO {all:List af} {x y:af} (h:yI all x y=true):(∀d,x.dst=some d->d ∉ looks all y)/\(∀d,x.dst=some d->y.dst≠some d)/\(∀d,y.dst=some d->d ∉ looks all x):=by
 refine ⟨fun d hd=>?_,fun d hd=>?_,fun d hd=>?_⟩<;>simp [yI,hd] at h
 ·exact h.1.1
 ·exact h.1.2
 ·exact h.2
theorem Pq {all:List af} {x y:af} (h:yI all x y=true):yI all y x=true:=by
 obtain ⟨h1,h2,h3⟩:=uO h
 unfold yI
 cases hx:x.dst with
 | none =>
  cases hy:y.dst with
  | none=>rfl
  | some d=>have:=h3 d hy;simp [this]
 | some d =>
  have a1:=h1 d hx
  have a2:=h2 d hx
  cases hy:y.dst with
  | none=>simp [a1]
  | some d' =>
   have a3:=h3 d' hy
   rw [hy] at a2
   have:¬ d=d':=fun e=>a2 (by rw [e])
   simp [a1,a3,this]
theorem Q3 (own:FuncId->Bool) (x y:af):vT own x y=vT own y x:=by unfold vT;rw [Bool.or_comm]
def qx (o:af) (S:Lk):Option Nat:=match o.op.map (bZ S) with
 | .load false _ (.pref id [] _)=>some id
 | _=>none
def lV (o:af) (S:Lk):List Nat:=match qx o S with
 | some id=>[2*id+1]
 | none=>(fO o S).map (2*·)
def I7 (o:af) (S:Lk):Option Nat:=match o.op.map (bZ S) with
 | .app true _ _ (.ref id (_::_::_) _ _ _) _=>some id
 | _=>none
def uK (o:af) (S:Lk) (us:List Upd):List Nat:=(jG us).flatMap fun x=>if I7 o S=some x then [2*x] else [2*x,2*x+1]
def EN:HV->HV
 | .osl sz n _=>.osl sz n []
 | .optr _=>.optr []
 | .omap m ks _=>.omap m ks []
 | v=>v
def shallow (t:HV):List HV:=(bn t).map EN
def ET (c:Nat) (M M':Lk):Prop:=if c % 2=0 then M (c / 2)=M' (c / 2) else shallow (M (c / 2))=shallow (M' (c / 2))
theorem RF {c:Nat} {M M':Lk} (h:M (c / 2)=M' (c / 2)):ET c M M':=by
 unfold ET;split
 ·exact h
 ·rw [h]
theorem y9 {o:af} {S:Lk} {c:Nat} (h:c∈lV o S):c / 2∈fO o S:=by
 unfold lV at h
 split at h
 ·rename_i id hs
  simp only [zl009] at h
  subst h
  unfold qx at hs
  split at hs
  ·rename_i sz id' off ho
   cases hs
   unfold fO
   rw [ho]
   simp [HOp.vals,aO,HV.deep];omega
  ·cases hs
 ·obtain ⟨x,hx,rfl⟩:=zl031.1 h
  simpa using hx
theorem OA {o:af} {S:Lk} {us:List Upd} {c:Nat} (h:c∈uK o S us):c / 2∈jG us:=by
 unfold uK at h
 obtain ⟨x,hx,hc⟩:=zl065.1 h
 split at hc
 ·simp only [zl009] at hc;subst hc;simpa using hx
 ·simp only [zl011,GM,or_false] at hc
  rcases hc with rfl|rfl
  ·simpa using hx
  ·have:(2*x+1) / 2=x:=by omega
   rw [this];exact hx
theorem Hz {o:af} {S:Lk} {us:List Upd} {x:Nat} (h:x∈jG us):2*x∈uK o S us:=by
 unfold uK
 refine zl065.2 ⟨x,h,?_⟩
 split<;>simp
theorem Si {o:af} {S:Lk} {us:List Upd} {x:Nat} (h:x∈jG us) (h2:2*x+1 ∉ uK o S us):I7 o S=some x:=by
 by_cases hd:I7 o S=some x
 ·exact hd
 ·exact absurd (zl065.2 ⟨x,h,by rw [if_neg hd];simp⟩) h2
theorem aaq {own:FuncId->Bool} {o:af} {S:Lk} (h:o.op.wrtO own=true):lV o S=(fO o S).map (2*·):=by
 have:qx o S=none:=by
  unfold qx
  obtain ⟨d,op,g⟩:=o
  cases op<;>first|rfl|(simp only [HOp.wrtO,HOp.wrt] at h;cases h;done)
 unfold lV;rw [this]
theorem QZ {x:HV} {a:Nat} {q:List Nat} (v:HV):EN (dI x v (a::q))=EN v:=by cases v<;>rfl
theorem Kt {x t:HV} {a b:Nat} {q:List Nat}:shallow (dI x t (a::b::q))=shallow t:=by
 have key:∀cs:List HV,(cs.set a (dI x (cs.getD a .dead) (b::q))).map EN=cs.map EN:=fun cs=>by
  rw [List.map_set,QZ]
  apply nN
  intro k
  rw [vg]
  split
  ·rename_i e;subst e
   split
   ·rename_i h;simp at h;simp [h]
   ·rename_i h;simp at h;simp [h]
  ·rfl
 cases t<;>simp only [dI,shallow,bn]<;>first|rfl|exact key _
theorem Gp (id:Nat) (p:List Nat) (j:Nat) (v:HV):look id p j v=look id p j (EN v):=by
 cases v<;>rfl
theorem Jy {id off sz fr:Nat} {M M':Lk} (h:shallow (M id)=shallow (M' id)):ak M fr (.load false sz (.pref id [] off))=ak M' fr (.load false sz (.pref id [] off)):=by
 have hl:(bn (M id)).length=(bn (M' id)).length:=by
  have:=congrArg List.length h
  simpa [shallow] using this
 have hg:EN ((bn (M id)).getD off .dead)=EN ((bn (M' id)).getD off .dead):=by
  have:=congrArg (fun l:List HV=>l[off]?) h
  simp only [shallow,jd] at this
  simp only [bH]
  cases h1:(bn (M id))[off]?<;>cases h2:(bn (M' id))[off]?<;>rw [h1,h2] at this<;>simp_all
 have e1:look id [] off ((bn (M id)).getD off .dead)=look id [] off ((bn (M' id)).getD off .dead):=by rw [Gp,hg,<- Gp]
 simp only [ak,aB,e1,hl,Bool.false_eq_true,if_false]
abbrev nP:=List (Nat×List Nat×List Nat)
def chk (own:FuncId->Bool) (masks:List Nat) (all:List af) (i:Nat) (o:af) (e:HV×List Upd) (S:Lk) (q:Nat×List Nat×List Nat):Prop :=
 wo masks q.1 i=false->wo masks i q.1=false->∀o',all[q.1]?=some o'->vT own o' o=true->(∀x∈uK o S e.2,x ∉ q.2.2)/\∀x∈q.2.1,x ∉ lV o S
section
variable {C:CF} {D:DS} {all:List af} {masks:List Nat} {nx:Nat} {K:Lk->Lk->Prop}
def dr (C:CF) (D:DS) (all:List af) (masks:List Nat) (nx:Nat) (K:Lk->Lk->Prop):List Nat->nP->Lk->Lk->Prop
 | [],_,S,M=>K S M
 | i::l,log,S,M=>∃o,all[i]?=some o/\gm C D all (nx+stride*i) o S M/\(∃e,jF D all (nx+stride*i) o S M e) /\
   ∀e,jF D all (nx+stride*i) o S M e->(∀q∈log,chk D.own masks all i o e S q)/\dr C D all masks nx K l ((i,uK o S e.2,lV o S)::log) (oO o e S) (xN e M)
theorem acz:∀ {l:List Nat} {log log':nP} {S M:Lk},dr C D all masks nx K l log S M->(∀q∈log',q∈log)->dr C D all masks nx K l log' S M:=by
 intro l
 induction l with
 | nil=>intro log log' S M h _;exact h
 | cons i l ih =>
  intro log log' S M h hl
  obtain ⟨o,ho,hs,he,h⟩:=h
  refine ⟨o,ho,hs,he,fun e hre=>⟨fun q hq=>(h e hre).1 q (hl q hq),ih (h e hre).2 ?_⟩⟩
  intro q hq
  rcases zl011.1 hq with rfl|hq
  ·simp
  ·exact Ag _ (hl q hq)
theorem OX {o:af} {S S':Lk} (hS:∀t∈looks all o,S t=S' t):fO o S=fO o S':=by unfold fO;rw [mM hS]
theorem oG {o:af} {S S':Lk} (hS:∀t∈looks all o,S t=S' t):lV o S=lV o S':=by unfold lV qx;rw [OX hS,mM hS]
theorem nZ {o:af} {S S':Lk} (hS:∀t∈looks all o,S t=S' t) (us:List Upd):uK o S us=uK o S' us:=by unfold uK I7;rw [mM hS]
theorem Cf {fr:Nat} {o:af} {S S' M M':Lk} (hS:∀t∈looks all o,S t=S' t) (hM:o.op.touch=false\/∀c∈lV o S,ET c M M'):gm C D all fr o S M=gm C D all fr o S' M':=by
 rcases hM with h|h
 ·exact uG hS (.inl h)
 ·cases hs:qx o S with
  | none =>
   unfold lV at h
   rw [hs] at h
   refine uG hS (.inr fun x hx=>?_)
   have:=h (2*x) (Aa hx)
   unfold ET at this
   rw [if_pos (by omega)] at this
   simpa using this
  | some id =>
   unfold lV at h
   rw [hs] at h
   have hv:=h (2*id+1) (by simp)
   unfold ET at hv
   rw [if_neg (by omega),show (2*id+1) / 2=id by omega] at hv
   unfold gm
   rw [<- Ci hS,<- mM hS]
   unfold qx at hs
   split at hs
   ·rename_i sz id' off ho
    cases hs
    rw [ho]
    simp only [mr,Jy hv]
   ·cases hs
theorem y8 {fr:Nat} {o:af} {e:HV×List Upd} {S S' M M':Lk} (hS:∀t∈looks all o,S t=S' t) (hM:o.op.touch=false\/∀c∈lV o S,ET c M M'):jF D all fr o S M e=jF D all fr o S' M' e:=by
 rcases hM with h|h
 ·exact wH hS (.inl h)
 ·cases hs:qx o S with
  | none =>
   unfold lV at h
   rw [hs] at h
   refine wH hS (.inr fun x hx=>?_)
   have:=h (2*x) (Aa hx)
   unfold ET at this
   rw [if_pos (by omega)] at this
   simpa using this
  | some id =>
   unfold lV at h
   rw [hs] at h
   have hv:=h (2*id+1) (by simp)
   unfold ET at hv
   rw [if_neg (by omega),show (2*id+1) / 2=id by omega] at hv
   unfold jF
   rw [<- Ci hS,<- mM hS]
   unfold qx at hs
   split at hs
   ·rename_i sz id' off ho
    cases hs
    rw [ho]
    simp only [oM,Jy hv]
   ·cases hs
theorem NJ {fr:Nat} {o:af} {e:HV×List Upd} {S M:Lk} {x:Nat} (hs:gm C D all fr o S M) (hr:jF D all fr o S M e) (hd:I7 o S=some x) (hx:x≠fr):shallow (xN e M x)=shallow (M x):=by
 unfold I7 at hd
 split at hd
 ·rename_i sz bytes id a b q sz2 off n y ho
  cases hd
  unfold gm at hs
  unfold jF at hr
  split at hs
  ·rename_i hg
   rw [hg,ho] at hr
   rw [ho] at hs
   have hn:(dN M true sz y).2.2.1=[]:=by
    unfold dN
    split<;>(try split)<;>(try split)<;>first|rfl|simp_all
   simp only [mr,ak] at hs
   simp only [oM,ak] at hr
   rw [hn] at hs hr
   simp only [Lk.upd] at hs hr
   cases ht:aB (M x) (a::b::q)<;>rw [ht] at hs hr<;>simp only at hs hr<;>(first|exact hs.elim|skip)
   subst hr
   unfold xN
   simp only [List.nil_append,Lk.upd,if_neg hx,if_true]
   exact Kt
  ·rename_i hg
   rw [hg] at hr
   subst hr
   rfl
  ·exact hs.elim
 ·cases hd
theorem DZ {o:af} (h:yx o=true):∃d k i,o=⟨d,.ext (.t k) i,none⟩:=by
 obtain ⟨d,op,g⟩:=o
 cases op<;>simp only [yx] at h<;>(first|(cases h;done)|skip)
 rename_i x i
 cases x<;>cases g<;>simp only at h<;>(first|(cases h;done)|exact ⟨d,_,i,rfl⟩)
theorem uN {own:FuncId->Bool} {o o':af} (h:yx o=true):vT own o' o=false/\vT own o o'=false:=by
 obtain ⟨d,k,i,rfl⟩:=DZ h
 simp [vT,HOp.wrtO,HOp.wrt,HOp.touch]
def jH:List Upd->HV->HV
 | [],v=>v
 | .put _ _::r,v=>jH r v
 | .kill id len::r,v=>jH r (v.kill id len)
theorem Ed:∀ (us:List Upd) (S:Lk) (t:Nat),yR S us t=jH us (S t)
 | [],_,_=>rfl
 | .put _ _::r,S,t=>Ed r S t
 | .kill id len::r,S,t=>Ed r (fun t=>(S t).kill id len) t
theorem Jk (id len:Nat):∀l:List HV,tV id len l=l.map fun v=>v.kill id len
 | []=>rfl
 | v::r=>by rw [tV,Jk id len r];rfl
theorem sV:∀ (us:List Upd) (cs:List HV),jH us (.tup cs)=.tup (cs.map (jH us))
 | [],cs=>by simp [jH]
 | .put _ _::r,cs=>by simp only [jH];exact sV r cs
 | .kill id len::r,cs=>by
  simp only [jH,HV.kill,Jk]
  rw [sV r,mW]
  rfl
theorem xX:∀ (us:List Upd) (v:HV) {cs:List HV},jH us v=.tup cs->∃cs',v=.tup cs'
 | [],v,cs,h=>⟨cs,h⟩
 | .put _ _::r,v,cs,h=>xX r v h
 | .kill id len::r,v,cs,h=>by
  obtain ⟨cs',h'⟩:=xX r _ h
  cases v<;>simp only [HV.kill] at h'<;>(first|exact ⟨_,rfl⟩|(cases h';done)|(split at h'<;>cases h'))
theorem zt {d:Option Nat} {k i fr:Nat} {S M:Lk} {e:HV×List Upd} (hs:gm C D all fr ⟨d,.ext (.t k) i,none⟩ S M):jF D all fr ⟨d,.ext (.t k) i,none⟩ S M e <-> ∃cs,S k=.tup cs/\i<cs.length/\e=(cs.getD i .dead,[]):=by
 have hs':(ak M fr (.ext (S k) i)).2.2:=hs
 have hd:jF D all fr ⟨d,.ext (.t k) i,none⟩ S M e <-> e=((ak M fr (.ext (S k) i)).1,(ak M fr (.ext (S k) i)).2.1):=Iff.rfl
 rw [hd]
 cases hk:S k<;>rw [hk] at hs'<;>simp only [ak] at hs' ⊢<;>(first|exact hs'.elim|skip)
 rename_i cs
 constructor
 ·intro h;exact ⟨cs,rfl,hs',h⟩
 ·rintro ⟨cs',h1,h2,h3⟩;cases h1;exact h3
theorem ext_side {d:Option Nat} {k i fr:Nat} {S M:Lk}:gm C D all fr ⟨d,.ext (.t k) i,none⟩ S M <-> ∃cs,S k=.tup cs/\i<cs.length:=by
 have hd:gm C D all fr ⟨d,.ext (.t k) i,none⟩ S M <-> (ak M fr (.ext (S k) i)).2.2:=Iff.rfl
 rw [hd]
 cases hk:S k<;>simp [ak]
theorem TA:∀ {l:List Nat} {log log':nP} {S M:Lk},dr C D all masks nx K l log S M->(∀q∈log',q∈log\/∃o,all[q.1]?=some o/\yx o=true)->dr C D all masks nx K l log' S M:=by
 intro l
 induction l with
 | nil=>intro log log' S M h _;exact h
 | cons i l ih =>
  intro log log' S M h hl
  obtain ⟨o,ho,hs,he,h⟩:=h
  refine ⟨o,ho,hs,he,fun e hre=>⟨fun q hq=>?_,ih (h e hre).2 ?_⟩⟩
  ·rcases hl q hq with h1|⟨o1,h1,h2⟩
   ·exact (h e hre).1 q h1
   ·intro _ _ o' ho' hsu
    rw [h1] at ho';cases ho'
    rw [(uN h2).2] at hsu;cases hsu
  ·intro q hq
   rcases zl011.1 hq with rfl|hq
   ·exact .inl (by simp)
   ·rcases hl q hq with h|h
    ·exact .inl (Ag _ h)
    ·exact .inr h
theorem sQ (o:af) (e:HV×List Upd) (S:Lk) (t:Nat):oO o e S t=if o.dst=some t then e.1 else jH e.2 (S t):=by
 unfold oO;rw [Ed]
theorem ML {i j:Nat} {l:List Nat} {log:nP} {S M:Lk} {oi oj:af} (hoi:all[i]?=some oi) (hoj:all[j]?=some oj) (hx:yx oi=true) (hap:yI all oi oj=true) (h:dr C D all masks nx K (i::j::l) log S M):dr C D all masks nx K (j::i::l) log S M:=by
 obtain ⟨oi',hoi',si,⟨ei,ri⟩,hi⟩:=h
 rw [hoi] at hoi';cases hoi'
 have hxx:=hx
 obtain ⟨d,k,n,rfl⟩:=DZ hx
 obtain ⟨ap1,ap2,ap3⟩:=uO hap
 obtain ⟨cs,hk,hn,rfl⟩:=(zt si).1 ri
 obtain ⟨_,oj',hoj',sj,⟨ej0,rj0⟩,hj⟩:=hi _ ri
 rw [hoj] at hoj';cases hoj'
 have lj:∀t∈looks all oj,S t=oO ⟨d,.ext (.t k) n,none⟩ (cs.getD n .dead,[]) S t:=fun t ht=>by
  rw [sQ,if_neg (fun e=>ap1 t e ht)];rfl
 have aj:oj.op.touch=false\/∀x∈fO oj S,M x=xN (cs.getD n .dead,[]) M x:=.inr fun _ _=>rfl
 have ej:=fun e=>wH (D:=D) (fr:=nx+stride*j) (e:=e) lj aj
 have hkd:∀t,oj.dst=some t->t≠k:=fun t ht e=>ap3 t ht (by subst e;simp [looks,HOp.vals,slotsOf])
 refine ⟨oj,hoj,by rw [uG lj aj];exact sj,⟨ej0,by rw [ej];exact rj0⟩,fun e2 r2=>⟨?_,?_⟩⟩
 ·intro q hq a b o' ho' hs
  have:=(hj e2 (by rw [<- ej];exact r2)).1 q (Ag _ hq) a b o' ho' hs
  rw [<- oG lj,<- nZ lj] at this
  exact this
 ·have hk2:oO oj e2 S k=.tup (cs.map (jH e2.2)):=by
   rw [sQ,if_neg (fun e=>hkd k e rfl),hk,sV]
  have si2:gm C D all (nx+stride*i) ⟨d,.ext (.t k) n,none⟩ (oO oj e2 S) (xN e2 M):=ext_side.2 ⟨_,hk2,by simpa using hn⟩
  refine ⟨_,hoi,si2,⟨_,(zt si2).2 ⟨_,hk2,by simpa using hn,rfl⟩⟩,fun e1 r1=>⟨?_,?_⟩⟩
  ·intro q hq a b o' ho' hs
   rw [(uN hxx).1] at hs;cases hs
  ·obtain ⟨cs2,hk3,hn2,rfl⟩:=(zt si2).1 r1
   rw [hk2] at hk3;cases hk3
   have hd:=(hj e2 (by rw [<- ej];exact r2)).2
   have eS:oO oj e2 (oO ⟨d,.ext (.t k) n,none⟩ (cs.getD n .dead,[]) S)=oO ⟨d,.ext (.t k) n,none⟩ ((cs.map (jH e2.2)).getD n .dead,[]) (oO oj e2 S):=by
    funext t
    simp only [sQ]
    have hg:(cs.map (jH e2.2)).getD n .dead=jH e2.2 (cs.getD n .dead):=by
     simp only [bH,jd,bM hn,iq,kC]
    by_cases h1:d=some t
    ·have:¬ oj.dst=some t:=ap2 t h1
     simp only [h1,this,if_true,if_false,hg,jH]
    ·simp only [h1,if_false,jH]
   rw [eS] at hd
   refine TA hd fun q hq=>?_
   simp only [zl011] at hq
   rcases hq with rfl|rfl|hq
   ·exact .inr ⟨_,hoi,hxx⟩
   ·rw [oG lj,nZ lj];exact .inl (Jv ..)
   ·exact .inl (Ag _ (Ag _ hq))
theorem Le {i j:Nat} {l:List Nat} {log:nP} {S M:Lk} {oi oj:af} (hoi:all[i]?=some oi) (hoj:all[j]?=some oj) (hx:yx oi=true) (hap:yI all oi oj=true) (h:dr C D all masks nx K (j::i::l) log S M):dr C D all masks nx K (i::j::l) log S M:=by
 obtain ⟨oj',hoj',sj,⟨ej0,rj0⟩,hj⟩:=h
 rw [hoj] at hoj';cases hoj'
 have hxx:=hx
 obtain ⟨d,k,n,rfl⟩:=DZ hx
 obtain ⟨ap1,ap2,ap3⟩:=uO hap
 have hkd:∀t,oj.dst=some t->t≠k:=fun t ht e=>ap3 t ht (by subst e;simp [looks,HOp.vals,slotsOf])
 have hk2:∀e2,oO oj e2 S k=jH e2.2 (S k):=fun e2=>by rw [sQ,if_neg (fun e=>hkd k e rfl)]
 obtain ⟨_,oi',hoi',si0,_,_⟩:=hj ej0 rj0
 rw [hoi] at hoi';cases hoi'
 obtain ⟨cs0,hk0,hn0⟩:=ext_side.1 si0
 rw [hk2] at hk0
 obtain ⟨cs,hk⟩:=xX _ _ hk0
 rw [hk,sV] at hk0
 cases hk0
 have hn:n<cs.length:=by simpa using hn0
 have si:gm C D all (nx+stride*i) ⟨d,.ext (.t k) n,none⟩ S M:=ext_side.2 ⟨cs,hk,hn⟩
 refine ⟨_,hoi,si,⟨_,(zt si).2 ⟨cs,hk,hn,rfl⟩⟩,fun e1 r1=>⟨fun q hq a b o' ho' hs=>?_,?_⟩⟩
 ·rw [(uN hxx).1] at hs;cases hs
 ·obtain ⟨cs1,hk1,_,rfl⟩:=(zt si).1 r1
  rw [hk] at hk1;cases hk1
  have lj:∀t∈looks all oj,S t=oO ⟨d,.ext (.t k) n,none⟩ (cs.getD n .dead,[]) S t:=fun t ht=>by
   rw [sQ,if_neg (fun e=>ap1 t e ht)];rfl
  have aj:oj.op.touch=false\/∀x∈fO oj S,M x=xN (cs.getD n .dead,[]) M x:=.inr fun _ _=>rfl
  have ej:=fun e=>wH (D:=D) (fr:=nx+stride*j) (e:=e) lj aj
  refine ⟨oj,hoj,by rw [<- uG lj aj];exact sj,⟨ej0,by rw [<- ej];exact rj0⟩,fun e2 r2=>⟨?_,?_⟩⟩
  ·intro q hq a b o' ho' hs
   rcases zl011.1 hq with rfl|hq
   ·simp only at ho'
    rw [hoi] at ho';cases ho'
    rw [(uN hxx).2] at hs;cases hs
   ·have:=(hj e2 (by rw [ej];exact r2)).1 q hq a b o' ho' hs
    rw [oG lj,nZ lj] at this
    exact this
  ·obtain ⟨_,oi',hoi',si2,_,hi⟩:=hj e2 (by rw [ej];exact r2)
   rw [hoi] at hoi';cases hoi'
   have hk3:oO oj e2 S k=.tup (cs.map (jH e2.2)):=by rw [hk2,hk,sV]
   have hd:=(hi _ ((zt si2).2 ⟨_,hk3,by simpa using hn,rfl⟩)).2
   have eS:oO oj e2 (oO ⟨d,.ext (.t k) n,none⟩ (cs.getD n .dead,[]) S)=oO ⟨d,.ext (.t k) n,none⟩ ((cs.map (jH e2.2)).getD n .dead,[]) (oO oj e2 S):=by
    funext t
    simp only [sQ]
    have hg:(cs.map (jH e2.2)).getD n .dead=jH e2.2 (cs.getD n .dead):=by
     simp only [bH,jd,bM hn,iq,kC]
    by_cases h1:d=some t
    ·have:¬ oj.dst=some t:=ap2 t h1
     simp only [h1,this,if_true,if_false,hg,jH]
    ·simp only [h1,if_false,jH]
   rw [<- eS] at hd
   refine TA hd fun q hq=>?_
   simp only [zl011] at hq
   rcases hq with rfl|rfl|hq
   ·rw [<- oG lj,<- nZ lj];exact .inl (Ag _ (Jv ..))
   ·exact .inr ⟨_,hoi,hxx⟩
   ·exact .inl (Ag _ (Ag _ hq))
theorem aaG {X:Nat->Prop} {i j:Nat} {l:List Nat} {log:nP} {S M:Lk} {oi oj:af} (hij:i≠j) (hoi:all[i]?=some oi) (hoj:all[j]?=some oj) (hp:Ib all oi oj=true) (hli:qL oi=true) (hlj:qL oj=true)
  (hb1:wo masks i j=false) (hb2:wo masks j i=false) (hI:Inv nx X S M) (hXi:¬ X i) (hXj:¬ X j) (h:dr C D all masks nx K (i::j::l) log S M):dr C D all masks nx K (j::i::l) log S M:=by
 simp only [Ib,bC,Iy,Ap] at hp
 obtain ⟨hap,(hx|hx)|⟨hki,hkj⟩⟩:=hp
 ·exact ML hoi hoj hx hap h
 ·exact Le hoj hoi hx (Pq hap) h
 obtain ⟨oi',hoi',si,⟨ei0,ri0⟩,hi⟩:=h
 rw [hoi] at hoi';cases hoi'
 obtain ⟨ap1,ap2,ap3⟩:=uO hap
 have inI:∀x∈fO oi S,wK nx X x:=fun x hx=>innL_iff.1 (Dl hI hli) x hx
 have inJ:∀x∈fO oj S,wK nx X x:=fun x hx=>innL_iff.1 (Dl hI hlj) x hx
 have wt:∀o:af,o.op.wrtO D.own=true->o.op.touch=true:=fun o=>by cases o.op<;>simp [HOp.wrtO,HOp.wrt,HOp.touch]
 have lj:∀ei,jF D all (nx+stride*i) oi S M ei->∀t∈looks all oj,S t=oO oi ei S t:=fun ei re t ht=>by
  obtain ⟨_,_,_,f4⟩:=um hI hli si re
  unfold oO
  rw [if_neg (fun e=>ap1 t e ht),nK (f4 hki)]
 have aj:∀ei,jF D all (nx+stride*i) oi S M ei->oj.op.touch=false\/∀c∈lV oj S,ET c M (xN ei M):=fun ei re=>by
  obtain ⟨_,_,f3,f4⟩:=um hI hli si re
  obtain ⟨_,oj',hoj',sj,⟨ej0,rj0⟩,hj⟩:=hi ei re
  rw [hoj] at hoj';cases hoj'
  cases htj:oj.op.touch with
  | false=>exact .inl rfl
  | true =>
   right
   intro c hc
   have hx:=y9 hc
   by_cases hxt:c / 2∈jG ei.2
   ·rcases f3 _ hxt with hr|⟨hw,_⟩
    ·exact absurd (uo (inJ _ hx) hr) hXi
    ·have hck:=((hj ej0 rj0).1 _ (Jv ..) hb1 hb2 oi hoi (by simp [vT,hw,htj])).2
     by_cases hcw:c∈uK oi S ei.2
     ·exact absurd (by rw [<- oG (lj ei re)];exact hc) (hck c hcw)
     ·have hodd:c % 2=1:=by
       rcases Nat.mod_two_eq_zero_or_one c with h0|h0
       ·have:=Hz (o:=oi) (S:=S) hxt
        rw [show 2*(c / 2)=c by omega] at this
        exact absurd this hcw
       ·exact h0
      have hd:=Si (o:=oi) (S:=S) hxt (by rw [show 2*(c / 2)+1=c by omega];exact hcw)
      unfold ET
      rw [if_neg (by omega)]
      exact (NJ si re hd (fun e=>hXi (uo (inJ _ hx) (by rw [e];unfold Cm stride;omega)))).symm
   ·exact RF (qJ hxt).symm
 obtain ⟨_,oj',hoj',sj,⟨ej0,rj0⟩,hj0⟩:=hi ei0 ri0
 rw [hoj] at hoj';cases hoj'
 have ej:∀ei,jF D all (nx+stride*i) oi S M ei->∀e,jF D all (nx+stride*j) oj S M e=jF D all (nx+stride*j) oj (oO oi ei S) (xN ei M) e:=fun ei re e=>y8 (lj ei re) (aj ei re)
 have sj':gm C D all (nx+stride*j) oj S M:=by rw [Cf (lj ei0 ri0) (aj ei0 ri0)];exact sj
 refine ⟨oj,hoj,sj',⟨ej0,by rw [ej ei0 ri0];exact rj0⟩,fun e2 r2=>⟨?_,?_⟩⟩
 ·intro q hq a b o' ho' hs
  have:=(hj0 e2 (by rw [<- ej ei0 ri0];exact r2)).1 q (Ag _ hq) a b o' ho' hs
  rw [<- oG (lj ei0 ri0),<- nZ (lj ei0 ri0)] at this
  exact this
 ·obtain ⟨_,_,g3,g4⟩:=um hI hlj sj' r2
  have li:∀t∈looks all oi,S t=oO oj e2 S t:=fun t ht=>by
   unfold oO
   rw [if_neg (fun e=>ap3 t e ht),nK (g4 hkj)]
  have ai:oi.op.touch=false\/∀c∈lV oi S,ET c M (xN e2 M):=by
   cases hti:oi.op.touch with
   | false=>exact .inl rfl
   | true =>
    right
    intro c hc
    have hx:=y9 hc
    by_cases hxt:c / 2∈jG e2.2
    ·rcases g3 _ hxt with hr|⟨hw,_⟩
     ·exact absurd (uo (inI _ hx) hr) hXj
     ·have hck:=((hj0 e2 (by rw [<- ej ei0 ri0];exact r2)).1 _ (Jv ..) hb1 hb2 oi hoi (by simp [vT,hw,hti])).1
      rw [<- nZ (lj ei0 ri0)] at hck
      by_cases hcw:c∈uK oj S e2.2
      ·exact absurd hc (hck c hcw)
      ·have hodd:c % 2=1:=by
        rcases Nat.mod_two_eq_zero_or_one c with h0|h0
        ·have:=Hz (o:=oj) (S:=S) hxt
         rw [show 2*(c / 2)=c by omega] at this
         exact absurd this hcw
        ·exact h0
       have hd:=Si (o:=oj) (S:=S) hxt (by rw [show 2*(c / 2)+1=c by omega];exact hcw)
       unfold ET
       rw [if_neg (by omega)]
       exact (NJ sj' r2 hd (fun e=>hXj (uo (inI _ hx) (by rw [e];unfold Cm stride;omega)))).symm
    ·exact RF (qJ hxt).symm
  refine ⟨oi,hoi,by rw [<- Cf li ai];exact si,⟨ei0,by rw [<- y8 li ai];exact ri0⟩,fun e1 r1=>?_⟩
  rw [<- y8 li ai] at r1
  obtain ⟨c1,oj',hoj',_,_,hj⟩:=hi e1 r1
  rw [hoj] at hoj';cases hoj'
  obtain ⟨d1,d2⟩:=hj e2 (by rw [<- ej e1 r1];exact r2)
  obtain ⟨_,_,f3,f4⟩:=um hI hli si r1
  have eoi:=oG li
  have eoj:=oG (lj e1 r1)
  have ewi:=nZ li e1.2
  have ewj:=nZ (lj e1 r1) e2.2
  refine ⟨?_,?_⟩
  ·intro q hq a b o' ho' hs
   rcases zl011.1 hq with rfl|hq
   ·simp only at ho'
    rw [hoj] at ho';cases ho'
    have:=d1 _ (Jv ..) hb1 hb2 oi hoi (by rw [Q3];exact hs)
    simp only [<- eoj,<- ewj] at this
    simp only [<- eoi,<- ewi]
    exact ⟨this.2,this.1⟩
   ·have:=c1 q hq a b o' ho' hs
    rw [eoi,ewi] at this
    exact this
  ·have eS:oO oj e2 (oO oi e1 S)=oO oi e1 (oO oj e2 S):=by
    funext t
    unfold oO
    rw [nK (f4 hki),nK (g4 hkj),nK (g4 hkj),nK (f4 hki)]
    by_cases h1:oi.dst=some t
    ·have:¬ oj.dst=some t:=ap2 t h1
     simp [h1,this]
    ·simp [h1]
   have eM:xN e2 (xN e1 M)=xN e1 (xN e2 M):=by
    funext x
    unfold xN
    by_cases h1:x∈jG e1.2
    ·have h2:x ∉ jG e2.2:=fun h2=>by
      rcases f3 x h1 with a|⟨w1,a⟩<;>rcases g3 x h2 with b|⟨w2,b⟩
      ·exact hij (SE a b)
      ·exact hXi (uo (inJ x b) a)
      ·exact hXj (uo (inI x a) b)
      ·have:=(d1 _ (Jv ..) hb1 hb2 oi hoi (by simp [vT,w1,wt oj w2])).1 (2*x) (Hz h2)
       simp only [aaq w1] at this
       exact this (Aa a)
     rw [qJ h2]
     exact AB (.inl h1)
    ·rw [qJ h1]
     by_cases h2:x∈jG e2.2
     ·exact AB (.inl h2)
     ·rw [qJ h2,qJ h1,qJ h2]
   rw [<- eS,<- eM]
   refine acz d2 fun q hq=>?_
   simp only [<- eoi,<- eoj,<- ewi,<- ewj,zl011] at hq ⊢
   rcases hq with h|h|h
   ·exact .inr (.inl h)
   ·exact .inl h
   ·exact .inr (.inr h)
theorem L9 {j:Nat} {oj:af} (hoj:all[j]?=some oj) (hlj:qL oj=true):∀ (l1 l2:List Nat) (X:Nat->Prop) (log:nP) (S M:Lk),Inv nx X S M->¬ X j->(∀i∈l1,i≠j/\¬ X i/\∃oi,all[i]?=some oi/\qL oi=true/\Ib all oi oj=true/\wo masks i j=false/\wo masks j i=false)->l1.Nodup ->
  dr C D all masks nx K (l1++j::l2) log S M->dr C D all masks nx K (j::(l1++l2)) log S M:=by
 intro l1
 induction l1 with
 | nil=>intro l2 X log S M _ _ _ _ h;exact h
 | cons i l1 ih =>
  intro l2 X log S M hI hXj hl hnd h
  obtain ⟨hij,hXi,oi,hoi,hli,hp,hb1,hb2⟩:=hl i (by simp)
  refine aaG hij hoi hoj hp hli hlj hb1 hb2 hI hXi hXj ?_
  obtain ⟨o,ho,hs,he,h⟩:=h
  rw [hoi] at ho;cases ho
  refine ⟨oi,hoi,hs,he,fun e re=>⟨(h e re).1,?_⟩⟩
  obtain ⟨f1,f2,_,_⟩:=um hI hli hs re
  rw [zl027] at hnd
  refine ih l2 (fun k=>X k\/k=i) _ _ _ (hI.step f1 f2) (fun hx=>hx.elim hXj fun e=>hij e.symm) (fun k hk=>?_) hnd.2 (h e re).2
  obtain ⟨a,b,c⟩:=hl k (by simp [hk])
  exact ⟨a,fun hx=>hx.elim b fun e=>hnd.1 (e▸hk),c⟩
end
section
variable {E:Fr} {N:Nat} {S M:Lk} {loc:Nat->Value} {fp:Nat->List Nat} {a:Act} {w:World}
theorem OW.inn {F:Nat->Prop} {h:Hp} {R:HV->Value->Prop} {vs rvs fs} (o:OW F h R vs rvs fs) {p:Nat->Prop} (hp:∀v rv id,R v rv->fF v=some id->p id):innL p vs:=by
 induction o with
 | nil=>simp
 | @leaf R v rv r rr fs a b c d e f g _ ih =>
  have ih':=ih hp
  cases v<;>simp [gJ] at a b c d e f
  ·simp only [aS,Ld];exact ⟨hp _ _ _ g rfl,ih'⟩
  ·simp only [aS,BC];exact ⟨hp _ _ _ g rfl,ih'⟩
  ·simpa using ih'
  ·simp only [aS,Di];exact ⟨hp _ _ _ g rfl,ih'⟩
  ·exact absurd rfl (c _ _ _ _ rfl rfl rfl)
 | int _ ih=>simpa using ih hp
 | bool _ ih=>simpa using ih hp
 | str _ ih=>simpa using ih hp
 | nils _ ih=>simpa using ih hp
 | nilp _ ih=>simpa using ih hp
 | nilf _ ih=>simpa using ih hp
 | dead _ ih=>simpa using ih hp
 | sl0 _ ih=>simpa using ih hp
 | sl a b c d _ _ ih1 ih2=>simp only [aS,YK];exact ⟨ih1 fun _ _ _ h=>h.elim,ih2 hp⟩
 | osl0 _ ih=>simpa using ih hp
 | osl a b c d e f _ _ ih1 ih2=>simp only [aS,zu];exact ⟨ih1 fun _ _ _ h=>h.elim,ih2 hp⟩
 | ptr a b c _ _ ih1 ih2=>simp only [aS,Fe];exact ⟨ih1 fun _ _ _ h=>h.elim,ih2 hp⟩
 | optr a _ _ ih1 ih2=>simp only [aS,Oc];exact ⟨ih1 fun _ _ _ h=>h.elim,ih2 hp⟩
 | nilm _ ih=>simpa using ih hp
 | rmap a b c _ _ ih1 ih2=>simp only [aS,HY];exact ⟨ih1 fun _ _ _ h=>h.elim,ih2 hp⟩
 | omap a b _ _ ih1 ih2=>simp only [aS,vP];exact ⟨ih1 fun _ _ _ h=>h.elim,ih2 hp⟩
 | oitr _ _ ih=>simpa using ih hp
 | agg _ _ ih1 ih2=>simp only [aS,uM];exact ⟨ih1 hp,ih2 hp⟩
 | tup _ _ ih1 ih2=>simp only [aS,zM];exact ⟨ih1 hp,ih2 hp⟩
 | fn _ _ ih1 ih2=>simp only [aS,D5];exact ⟨ih1 hp,ih2 hp⟩
theorem OW.rn {F:Nat->Prop} {h:Hp} {R R':HV->Value->Prop} {vs rvs fs} (g:Nat->Nat) (o:OW F h R vs rvs fs) (hfs:fs=[]) (hl:∀v rv,R v rv->∃id,fF v=some id) (hr:∀v rv,R v rv->R' (v.rn g) rv):OW F h R' (rnL g vs) rvs []:=by
 induction o with
 | nil=>exact .nil
 | @leaf R v rv r rr fs a b c d e f gg _ ih =>
  have ih':=ih hfs hl hr
  obtain ⟨id,hid⟩:=hl _ _ gg
  have h1:=hr _ _ gg
  have:(fF (v.rn g)).isSome=true:=by cases v<;>simp [fF] at hid<;>simp [HV.rn,fF]
  exact (dB this h1).cons1 ih'
 | int _ ih=>exact .int (ih hfs hl hr)
 | bool _ ih=>exact .bool (ih hfs hl hr)
 | str _ ih=>exact .str (ih hfs hl hr)
 | nils _ ih=>exact .nils (ih hfs hl hr)
 | nilp _ ih=>exact .nilp (ih hfs hl hr)
 | nilf _ ih=>exact .nilf (ih hfs hl hr)
 | dead _ ih=>exact .dead (ih hfs hl hr)
 | sl0 _ ih=>exact .sl0 (ih hfs hl hr)
 | sl a b c d e _ _ ih=>exact .sl a b c d e (ih hfs hl hr)
 | osl0 _ ih=>exact .osl0 (ih hfs hl hr)
 | osl=>simp at hfs
 | ptr a b c d _ _ ih=>exact .ptr a b c d (ih hfs hl hr)
 | optr=>simp at hfs
 | nilm _ ih=>exact .nilm (ih hfs hl hr)
 | rmap a b c d _ _ ih=>exact .rmap a b c d (ih hfs hl hr)
 | omap=>simp at hfs
 | oitr=>simp at hfs
 | agg _ _ ih1 ih2 =>
  obtain ⟨rfl,rfl⟩:_=[]/\_=[]:=by simpa using hfs
  exact .agg (ih1 rfl hl hr) (ih2 rfl hl hr)
 | tup _ _ ih1 ih2 =>
  obtain ⟨rfl,rfl⟩:_=[]/\_=[]:=by simpa using hfs
  exact .tup (ih1 rfl hl hr) (ih2 rfl hl hr)
 | fn _ _ ih1 ih2 =>
  obtain ⟨rfl,rfl⟩:_=[]/\_=[]:=by simpa using hfs
  exact .fn (ih1 rfl hl hr) (ih2 rfl hl hr)
theorem Rel.rename (hr:Rel E N S M loc fp a w) (g:Nat->Nat) (hg:∀x,g (g x)=x) (hN:∀x,x<N->g x<N):Rel E N (fun t=>(S t).rn g) (fun k=>M (g k)) (fun k=>loc (g k)) (fun k=>fp (g k)) a w:=by
 have inj:∀x y,g x=g y->x=y:=fun x y h=>by rw [<- hg x,<- hg y,h]
 have hfz:∀b,dY E fp w b->dY E (fun k=>fp (g k)) w b:=fun b ⟨h1,h2,h3⟩=>⟨h1,h2,fun k=>h3 (g k)⟩
 refine ⟨hr.below,hr.base,hr.size,fun id h=>(hr.tree (g id) h).stable (fun _ _=>rfl) (fun b hb=>⟨hfz b hb,rfl⟩) (fun _ _ h=>h),fun id h=>hr.gone (g id) h,fun id h=>hr.new (g id) ?_,fun id=>hr.nodup (g id),fun i j hij=>hr.apart (g i) (g j) (fun e=>hij (inj _ _ e)),fun id=>hr.fresh (g id),fun t=>?_,hr.defers⟩
 ·rcases iE (g id) N with h'|h'
  ·have:=hN _ h'
   rw [hg] at this
   omega
  ·exact h'
 ·have:=(hr.slots t).rn (R':=RefR N (fun k=>M (g k)) (fun k=>loc (g k)) w.heap) g rfl (fun v rv h=>by obtain ⟨id,h1,_⟩:=h.isRef;exact ⟨id,h1⟩) (by
   intro v rv hv
   cases v<;>(try exact hv.elim)
   ·obtain ⟨a1,a2,a3,a4,a5⟩:=hv
    exact ⟨hN _ a1,a2,a3,by simp only [hg];exact a4,by simp only [hg];exact a5⟩
   ·obtain ⟨a1,a2,a3,a4⟩:=hv
    exact ⟨hN _ a1,a2,a3,by simp only [hg];exact a4⟩
   ·obtain ⟨a1,a2,a3,a4,a5⟩:=hv
    exact ⟨hN _ a1,a2,a3,by simp only [hg];exact a4,by simp only [hg];exact a5⟩)
  exact this.stable (by simp) (fun b hb=>⟨hfz b hb,rfl⟩) (fun _ _ h=>h)
def Y5 (N0 f m x:Nat):Nat:=if N0<=x/\x<N0+m then x - N0+f else if f<=x/\x<f+m then x - f+N0 else x
theorem Zl {N0 f m:Nat} (h:f+m<=N0) (x:Nat):Y5 N0 f m (Y5 N0 f m x)=x:=by
 unfold Y5
 by_cases h1:N0<=x/\x<N0+m
 ·rw [if_pos h1,if_neg (by omega),if_pos (by omega)];omega
 ·rw [if_neg h1]
  by_cases h2:f<=x/\x<f+m
  ·rw [if_pos h2,if_pos (by omega)];omega
  ·rw [if_neg h2,if_neg h1,if_neg h2]
theorem aca {N0 f m:Nat} (h:f+m<=N0) (x:Nat) (hx:x<N0+m):Y5 N0 f m x<N0+m:=by
 unfold Y5;split
 ·omega
 ·split<;>omega
theorem abw {g:Nat->Nat} (hg:∀x,g (g x)=x):∀ (us:List Upd) (A B:Lk),(∀k,A (g k)=B k)->∀k,Lk.upd A us (g k)=Lk.upd B (us.map (L6 g)) k:=by
 intro us
 induction us with
 | nil=>intro A B h k;exact h k
 | cons u us ih =>
  intro A B h k
  cases u with
  | put id t =>
   simp only [dV,L6,Lk.upd]
   refine ih _ _ (fun k=>?_) k
   by_cases hk:g k=id
   ·have:k=g id:=by rw [<- hk,hg]
    rw [if_pos hk,if_pos this]
   ·have:¬ k=g id:=fun e=>hk (by rw [e,hg])
    rw [if_neg hk,if_neg this]
    exact h k
  | kill id n=>exact ih A B h k
theorem ZU {g:Nat->Nat} (hg:∀x,g (g x)=x) {us:List Upd} (hu:∀x∈jG us,g x=x) (hM:∀k,g k≠k->M k=.dead) (k:Nat):Lk.upd M us (g k)=Lk.upd M us k:=by
 by_cases hk:g k=k
 ·rw [hk]
 ·rw [qJ fun h=>hk (hu k h),qJ fun h=>by have:=hu _ h;rw [hg] at this;exact hk this.symm,hM k hk,hM (g k) (by rw [hg];exact fun e=>hk e.symm)]
end
theorem HT.deep {P:Program} {f:FuncId} {args:List HV} {K:HV->Prop} (h:HT P f args K):HT P f args fun r=>K r/\r.deep=[] :=
 ⟨h.1,fun w rargs F hF hargs=>(h.2 w rargs F hF hargs).mono fun _ _ ⟨rv,res,fs,h1,h2,h3,h4⟩=>⟨rv,res,fs,h1,⟨h2,by
  have:=h3.inn (p:=fun _=>False) (fun _ _ _ h=>h.elim)
  simp only [aS,Nh,and_true] at this
  exact zl052.2 fun x hx=>this x hx⟩,h3,h4⟩⟩
theorem HT.imp {P:Program} {f:FuncId} {args:List HV} {K K':HV->Prop} (h:HT P f args K) (hk:∀r,K r->K' r):HT P f args K' :=
 ⟨h.1,fun w rargs F hF hargs=>(h.2 w rargs F hF hargs).mono fun _ _ ⟨rv,res,fs,h1,h2,h3⟩=>⟨rv,res,fs,h1,hk _ h2,h3⟩⟩
def HT2 (P:Program):CF:=⟨fun f args K=>HT P f args K,fun f args K=>HTM P f args K⟩
theorem HTM.deep {P:Program} {f:FuncId} {args:List HV} {K:HV->Prop} (h:HTM P f args K):HTM P f args fun r=>K r/\r.deep=[] :=
 ⟨h.1,fun w rargs F fa h1 h2 h3 h4=>(h.2 w rargs F fa h1 h2 h3 h4).mono fun e w' ⟨rv,res,outs,fs,a,b,c,d⟩=>⟨rv,res,outs,fs,a,⟨b,by
  have:=c.inn (p:=fun _=>False) (fun _ _ _ h=>h.elim)
  simp only [aS] at this
  exact zl052.2 fun x hx=>this.1 x hx⟩,c,d⟩⟩
section
variable {P:Program} {E:Fr} {N:Nat} {S M:Lk} {loc:Nat->Value} {fp:Nat->List Nat} {a:Act} {w:World} {D:DS} {nx i:Nat}
theorem abz {g:Nat->Nat} (hg:∀x,g (g x)=x) (hN:∀x,x<N->g x<N) {o:af} {us0 uF:List Upd} {v:HV} (hr:Rel E N (fun t=>if o.dst=some t then v else yR S (us0++uF) t) (Lk.upd M (us0++uF)) loc fp a w)
  (hS:∀t,(S t).inn fun x=>g x=x) (hM:∀k,g k≠k->M k=.dead) (hu:∀x∈jG us0,g x=x) (hF:∀u∈uF,∃id t,u=.put id t) :
  ∃N' loc' fp',Rel E N' (oO o (v.rn g,us0++uF.map (L6 g)) S) (xN (v.rn g,us0++uF.map (L6 g)) M) loc' fp' a w:=by
 have h:=hr.rename g hg hN
 refine ⟨N,fun k=>loc (g k),fun k=>fp (g k),?_⟩
 have e1:(fun t=>(if o.dst=some t then v else yR S (us0++uF) t).rn g)=oO o (v.rn g,us0++uF.map (L6 g)) S:=by
  funext t
  unfold oO
  have hF':∀u∈uF.map (L6 g),∃id t,u=.put id t:=fun u hu=>by
   obtain ⟨u',h1,rfl⟩:=zl031.1 hu
   obtain ⟨id,t,rfl⟩:=hF u' h1
   exact ⟨_,_,rfl⟩
  by_cases hd:o.dst=some t
  ·simp only [hd,if_true]
  ·simp only [hd,if_false]
   rw [iP,iP,nK hF,nK hF']
   exact HV.rn_id g _ (Tu hS t)
 have e2:(fun k=>Lk.upd M (us0++uF) (g k))=xN (v.rn g,us0++uF.map (L6 g)) M:=by
  funext k
  unfold xN
  rw [gq,gq]
  exact abw hg uF _ _ (fun k=>ZU hg hu hM k) k
 rw [<- e1,<- e2]
 exact h
theorem Je {ops:Array Oper} {o:Oper} (ho:ops[i]?=some o) {X:Nat->Prop} (hr:Rel E N S M loc fp a w) (hI:Inv nx X S M) (hX:¬ X i) (hl:qL (bf P E.ok o)=true)
  (hs:gm (HT2 P) D (ops.toList.map (bf P E.ok)) (nx+stride*i) (bf P E.ok o) S M) {Kw:Act->World->Prop} {Q:Exit->Act->World->Prop}
  (hn:∀e a' w',jF D (ops.toList.map (bf P E.ok)) (nx+stride*i) (bf P E.ok o) S M e->(∃N' loc' fp',Rel E N' (oO (bf P E.ok o) e S) (xN e M) loc' fp' a' w')->Kw a' w'):wpOp P ops Q i Kw a w:=by
 have hgd:(bf P E.ok o).guard=o.guard:=rfl
 have hdst:(bf P E.ok o).dst=o.dst:=rfl
 have bool:∀ {d:Nat} {b:Bool},S d=.bool b->a.tmps[d]?=some (.bool b):=fun {d b} hb=>by
  have h1:=hr.slots d
  rw [hb] at h1
  have h3:=of_bool h1
  cases h4:a.tmps[d]? with
  | none=>rw [kK,h4] at h3;simp [undef] at h3
  | some v=>rw [kK,h4] at h3;simpa using h3
 have hw:∀b,gd (ops.toList.map (bf P E.ok)) (bf P E.ok o) S=some b->Region.wanted o (yielded ops a.tmps)=b:=by
  intro b hb
  unfold gd at hb
  rw [hgd] at hb
  unfold Region.wanted
  cases hg:o.guard with
  | none=>rw [hg] at hb;simpa using hb
  | some jw =>
   obtain ⟨j,want⟩:=jw
   rw [hg] at hb
   simp only [jd,Option.bind_map] at hb
   have hall:((ops.toList[j]?).bind ((fun x=>x.dst) ∘ bf P E.ok))=((ops[j]?).bind (·.dst)):=by rw [uH];rfl
   rw [hall] at hb
   cases hd:(ops[j]?).bind (·.dst) with
   | none=>rw [hd] at hb;simp at hb
   | some d =>
    rw [hd] at hb
    simp only [iq] at hb
    generalize hv:S d=v at hb
    cases v with
    | bool c =>
     simp only at hb
     have hy:yielded ops a.tmps j=some c:=by
      unfold yielded
      rw [hd]
      simp only [JO,bool hv]
     simp only [hy]
     cases c<;>cases want<;>cases b<;>simp_all
    | tup cs =>
     cases cs with
     | cons _ _=>simp at hb
     | nil =>
      simp only [cO] at hb
      subst hb
      have hy:yielded ops a.tmps j=none:=by
       have h1:=hr.slots d
       rw [hv] at h1
       have h3:=NI h1
       unfold yielded
       rw [hd]
       simp only [JO]
       cases h4:a.tmps[d]? with
       | none=>rfl
       | some v=>rw [kK,h4] at h3;simp at h3;rw [h3];rfl
      simp [hy]
    | _=>simp at hb
 unfold gm at hs
 unfold wpOp
 rw [ho]
 simp only
 cases hgv:gd (ops.toList.map (bf P E.ok)) (bf P E.ok o) S with
 | none=>rw [hgv] at hs;exact hs.elim
 | some b =>
  rw [hgv] at hs
  rw [hw b hgv]
  cases b with
  | false =>
   simp only [Bool.false_eq_true,if_false]
   exact hn (.tup [],[]) _ _ (by unfold jF;rw [hgv]) ⟨N,loc,fp,hr.putU o.dst⟩
  | true =>
   simp only [if_true]
   simp only at hs
   left
   let N0:=max N (nx+stride*(i+1))
   let f:=nx+stride*i
   have hf0:f+stride<=N0:=by simp only [f,N0,stride];omega
   have hNN:N<=N0:=by simp only [N0];omega
   let g:=Y5 N0 f stride
   have hg:∀x,g (g x)=x:=Zl hf0
   have hgN:∀x,x<N0+stride->g x<N0+stride:=aca hf0
   have gid:∀x,x<N0->¬ Cm nx i x->g x=x:=fun x h1 h2=>by
    simp only [g,Y5]
    rw [if_neg (by omega),if_neg (fun h=>h2 ⟨h.1,by simp only [f,stride] at *;omega⟩)]
   have hS:∀t,(S t).inn fun x=>g x=x:=fun t x hx=>by
    have h1:=(hr.slots t).inn (p:=fun x=>x<N) (fun v rv id h hid=>by cases v<;>simp only [fF,cO,reduceCtorEq] at hid<;>subst hid<;>exact h.1)
    simp only [aS] at h1
    exact gid x (qh (h1.1 x hx) hNN) fun hr'=>hX (uo (hI.slots t x hx) hr')
   have hM:∀k,g k≠k->M k=.dead:=fun k hk=>by
    rcases iE k N with h|h
    ·by_cases h2:Cm nx i k
     ·cases hd:M k with
      | dead=>rfl
      | _=>exact absurd (uo (hI.alive k (by rw [hd];simp)) h2) hX
     ·exact absurd (gid k (by omega) h2) hk
    ·exact hr.new k h
   have hMi:∀id,(M id).inn fun x=>g x=x:=fun id=>by
    by_cases h:M id=.dead
    ·rw [h];simp
    ·have:=(hr.tree id h).inn (p:=fun x=>g x=x) (fun _ _ _ h=>h.elim)
     simpa using this
   have hvals:innL (fun x=>g x=x) ((bf P E.ok o).op.map (bZ S)).vals:=by
    rw [HOp.vals_map]
    intro v hv
    obtain ⟨x,hx,rfl⟩:=zl031.1 hv
    cases x with
    | t i=>exact hS i
    | c v =>
     simp only [qL,bC,zl021] at hl
     have:=hl.2 _ hx
     simp only [EF] at this
     intro y hy
     simp only [bZ,this] at hy
     cases hy
   have hlits:innL (fun x=>g x=x) ((bf P E.ok o).op.map (bZ S)).lits:=by
    rw [HOp.lits_map,innL_iff]
    simp only [qL,bC,EF] at hl
    rw [hl.1]
    simp
   have hres:∀e,oM D M f e ((bf P E.ok o).op.map (bZ S))->jF D (ops.toList.map (bf P E.ok)) f (bf P E.ok o) S M e:=fun e h=>by unfold jF;rw [hgv];exact h
   by_cases hd:(o.dst.all fun d=>E.ok d)=true
   case neg =>
    have hop0:(bf P E.ok o).op=.bad:=by simp only [bf,hd];rfl
    rw [hop0] at hs
    exact hs.elim
   have hop0:(bf P E.ok o).op=aT P o:=by simp only [bf,hd,if_true]
   have hdt:∀t,o.dst=some t->E.ok t=true:=fun t ht=>by simpa [ht] using hd
   rw [hop0] at hs hvals hlits hres
   have done:∀ {us0 uF:List Upd} {v:HV} {rv:Value} {w':World} {N1:Nat},N1<=N0+stride->After E N1 S M (us0++uF) v rv a w'->(∀x∈jG us0,g x=x)->(∀u∈uF,∃id t,u=.put id t)->oM D M f (v.rn g,us0++uF.map (L6 g)) ((aT P o).map (bZ S))->Kw (a.put o.dst rv) w':=by
    intro us0 uF v rv w' N1 hN1 hA h1 h2 h3
    obtain ⟨loc',fp',h4,h5⟩:=hA
    have h6:=(h4.put o.dst hdt h5).up hN1
    exact hn _ _ _ (hres _ h3) (abz (o:=bf P E.ok o) hg hgN h6 hS hM h1 h2)
   have plain:(aT P o).isCall=false->(ak M f ((aT P o).map (bZ S))).2.2->(∀e,oM D M f e ((aT P o).map (bZ S)) <-> e=((ak M f ((aT P o).map (bZ S))).1,(ak M f ((aT P o).map (bZ S))).2.1))->o.wp P a w Kw Q:=by
    intro hnc hvc hce
    obtain ⟨us0,a1,a2,a3,a4⟩:=Iq (L:=M) (D:=aO ((aT P o).map (bZ S)).vals) hvals (fun x hx=>hx) hlits hMi
    have ht:∀x∈jG us0,g x=x:=by
     intro x hx
     clear a2 a3 a4
     induction us0 with
     | nil=>cases hx
     | cons u us ih =>
      have ih:=ih (fun u hu=>a1 u (by simp [hu]))
      cases u with
      | put id t =>
       simp only [jG,zl011] at hx
       rcases hx with rfl|hx
       ·exact innL_iff.1 hvals _ (a1 (.put x t) (by simp)).1
       ·exact ih hx
      | kill=>exact ih hx
    have key:∃v uF,(ak M N0 ((aT P o).map (bZ S))).1=v/\(ak M N0 ((aT P o).map (bZ S))).2.1=us0++uF/\(ak M N0 ((aT P o).map (bZ S))).2.2/\(∀u∈uF,∃id t,u=.put id t)/\oM D M f (v.rn g,us0++uF.map (L6 g)) ((aT P o).map (bZ S)):=by
     have gN:g N0=f:=by simp only [g,Y5,stride];rw [if_pos (by omega)];omega
     rcases a4 with ⟨v,q,h1,h2⟩|⟨mk,T,q,h0,h1,h2⟩
     ·rw [h2] at hvc
      refine ⟨v,[],by rw [h2],by rw [h2];simp,by rw [h2];exact hvc,by simp,(hce _).2 ?_⟩
      rw [h2,HV.rn_id g v h1];simp
     ·rw [h2] at hvc
      refine ⟨mk N0,[.put N0 T],by rw [h2],by rw [h2],by rw [h2];exact hvc,by simp,(hce _).2 ?_⟩
      rw [h2]
      rcases h0 with ⟨sz,n,rfl⟩|rfl|rfl
      ·simp [HV.rn,L6,gN]
      ·simp [HV.rn,L6,gN]
      ·simp [HV.rn,L6,gN]
    obtain ⟨v,uF,k1,k2,k3,k4,k5⟩:=key
    obtain ⟨rv,w',h1,h2⟩:=Nu hr hNN o hnc k3
    rw [k1,k2] at h2
    have:=done (by unfold stride;omega) h2 ht k4 k5
    unfold Oper.wp
    rcases h1 with h1|⟨h1,rfl⟩
    ·rw [h1];exact this
    ·rw [h1];exact this
   have callgen:∀ (fn:FuncId) (vs:List HV) (rvs:List Value),(execOp a.eval o).run P w=(callFunc fn rvs.toArray).run P w->OW (dY E fp w) w.heap (RefR N M loc w.heap) vs rvs [] ->
     (HT P fn (dM cZ M vs) (D.rel fn (dM cZ M vs))/\∀r,D.rel fn (dM cZ M vs) r->r.deep=[]->(aJ vs || r.noRd)=true/\(unpack f r).2.2<=f+stride) ->
     (∀r,D.rel fn (dM cZ M vs) r->r.deep=[]->oM D M f ((unpack f r).1,(unpack f r).2.1) ((aT P o).map (bZ S)))->o.wp P a w Kw Q:=by
    intro fn vs rvs hrun hv hC hce
    unfold Oper.wp
    rw [hrun,sN hC.1.1,Oper.upon_enter]
    have hC':=(hC.1.deep).imp (K':=fun r=>(aJ vs || r.noRd)=true/\(D.rel fn (dM cZ M vs) r/\r.deep=[])) fun r hr'=>⟨(hC.2 r hr'.1 hr'.2).1,hr'⟩
    refine (Iu hr hNN hv hC').mono ?_
    rintro e w' ⟨rv,res,rfl,⟨hK,hdp⟩,_,hA⟩
    obtain ⟨u1,u2,u3,u4,u5⟩:=vN g res N0 f hdp
    have hb:=(hC.2 res hK hdp).2
    obtain ⟨e1,e2⟩:=u3 fun k h1 h2=>by simp only [g,Y5];rw [if_pos (by omega)]
    refine done (us0:=[]) (by omega) hA (by simp [jG]) (fun u hu=>by obtain ⟨id,t,rfl,_⟩:=u5 u hu;exact ⟨_,_,rfl⟩) ?_
    have:=hce res hK hdp
    rw [e1,e2] at this
    exact this
   cases hop':aT P o with
   | call fn xs =>
    rw [hop'] at hs
    simp only [HOp.map] at hs
    obtain ⟨c,hc,hcal,rfl⟩:=Ee hop'
    have e1:(#[]:Array Value)++c.args.map a.eval++#[]=(c.args.toList.map a.eval).toArray:=by apply BD;simp
    have e2:a.eval (.func fn)=.func (.func fn) #[] #[]:=rfl
    have hrun:(execOp a.eval o).run P w=(callFunc fn (c.args.toList.map a.eval).toArray).run P w:=by
     simp only [execOp,hc,resolve,hcal,e2,Deferred.ofValue,Sem.run_bind,Sem.run_pure,Result.andThen_ok,invoke,e1]
    simp only [mr] at hs
    by_cases hown:D.own fn=true
    ·rw [if_pos hown] at hs
     rw [mW] at hs
     have hs':(aN M (c.args.toList.map fun x=>bZ S (dZ x))).2.2/\HTM P fn (aN M (c.args.toList.map fun x=>bZ S (dZ x))).1 (D.rel fn (aN M (c.args.toList.map fun x=>bZ S (dZ x))).1)/\∀r,D.rel fn (aN M (c.args.toList.map fun x=>bZ S (dZ x))).1 r->r.deep=[]->(unpack f r).2.2<=f+stride:=hs
     have hvals':innL (fun x=>g x=x) (c.args.toList.map fun x=>bZ S (dZ x)):=by
      have:=hvals
      rw [hop'] at this
      simp only [HOp.map,HOp.vals,mW] at this
      exact this
     have hce:∀r,D.rel fn (aN M (c.args.toList.map fun x=>bZ S (dZ x))).1 r->r.deep=[]->oM D M f ((unpack f r).1,(aN M (c.args.toList.map fun x=>bZ S (dZ x))).2.1++(unpack f r).2.1) ((aT P o).map (bZ S)):=fun r h1 h2=>by
      rw [hop']
      simp only [HOp.map,oM]
      rw [if_pos hown,mW]
      exact ⟨r,h1,h2,rfl⟩
     have hv:=hr.vals c.args.toList
     generalize hvs:(c.args.toList.map fun x=>bZ S (dZ x))=vs at hs' hvals' hce hv
     obtain ⟨_,a2⟩:=sO (D:=aO vs) M vs hvals' (fun x hx=>hx) hMi
     have ht:∀x∈jG (aN M vs).2.1,g x=x:=by
      intro x hx
      generalize (aN M vs).2.1=us0 at a2 hx
      induction us0 with
      | nil=>cases hx
      | cons u us ih =>
       have ih:=ih (fun u hu=>a2 u (by simp [hu]))
       cases u with
       | put id t =>
        simp only [jG,zl011] at hx
        rcases hx with rfl|hx
        ·exact innL_iff.1 hvals' _ (a2 (.put x t) (by simp)).1
        ·exact ih hx
       | kill=>exact ih hx
     unfold Oper.wp
     rw [hrun,sN hs'.2.1.1,Oper.upon_enter]
     refine (EJ hr hNN hv hs'.1 (io:=[]) (ids:=[]) rfl List.nodup_nil (HTM.deep hs'.2.1)).mono ?_
     rintro e w' ⟨rv,res,outs,rfl,⟨hK,hdp⟩,hlo,_,hA⟩
     obtain rfl:outs=[]:=iU hlo
     simp only [kills,oz,pY,List.zip_nil_left,List.append_nil] at hA
     obtain ⟨u1,u2,u3,u4,u5⟩:=vN g res N0 f hdp
     have hb:=hs'.2.2 res hK hdp
     obtain ⟨e1,e2⟩:=u3 fun k h1 h2=>by simp only [g,Y5];rw [if_pos (by omega)]
     refine done (us0:=(aN M vs).2.1) (by omega) hA ht (fun u hu=>by obtain ⟨id,t,rfl,_⟩:=u5 u hu;exact ⟨_,_,rfl⟩) ?_
     have:=hce res hK hdp
     rw [e1,e2] at this
     exact this
    ·rw [if_neg hown] at hs
     refine callgen fn (c.args.toList.map fun x=>bZ S (dZ x)) (c.args.toList.map a.eval) hrun (hr.vals _) (by rw [mW] at hs;exact hs) (fun r h1 h2=>?_)
     rw [hop']
     simp only [HOp.map,oM]
     rw [if_neg hown]
     exact ⟨r,by rw [mW];exact h1,h2,rfl⟩
   | callv x xs =>
    rw [hop'] at hs
    simp only [HOp.map] at hs
    obtain ⟨c,t,hc,hcal,rfl,rfl⟩:=AO hop'
    have hval:=hr.val (.tmp t)
    simp only [dZ] at hval
    rw [hop'] at callgen
    simp only [HOp.map] at callgen
    generalize bZ S (.t t)=fv at *
    cases fv<;>simp only [mr,ak] at hs<;>(first|exact hs.elim|skip)
    rename_i fn cap
    obtain ⟨rcap,hfe,hcap⟩:=NK hval
    have hv:=(hr.vals c.args.toList).append hcap
    simp only [List.append_nil] at hv
    refine callgen fn (c.args.toList.map (fun x=>bZ S (dZ x))++cap) (c.args.toList.map a.eval++rcap) ?_ hv (by rw [mW] at hs;exact hs) (fun r h1 h2=>?_)
    ·have e1:(#[]:Array Value)++c.args.map a.eval++rcap.toArray=(c.args.toList.map a.eval++rcap).toArray:=by apply BD;simp
     simp only [execOp,hc,resolve,hcal,hfe,Deferred.ofValue,Sem.run_bind,Sem.run_pure,Result.andThen_ok,invoke,e1]
    ·exact ⟨r,by rw [mW];exact h1,h2,rfl⟩
   | _ =>
    rw [hop'] at hs
    rw [hop'] at plain
    exact plain rfl hs (fun e=>Iff.rfl)
end
def Ai (ms:List Nat):List Edge->Nat
 | []=>0
 | e::r=>(if Region.binds .any e then 2 ^ e.on ||| ms.getD e.on 0 else 0) ||| Ai ms r
def sG:List Oper->List Nat->List Nat
 | [],ms=>ms
 | o::r,ms=>sG r (ms++[Ai ms o.after.toList])
def gV (ops:Array Oper):List Nat:=sG ops.toList []
theorem EC:∀ (r:List Oper) (ms:List Nat),∃t,sG r ms=ms++t:=by
 intro r
 induction r with
 | nil=>intro ms;exact ⟨[],by simp [sG]⟩
 | cons o r ih =>
  intro ms
  obtain ⟨t,h⟩:=ih (ms++[Ai ms o.after.toList])
  exact ⟨Ai ms o.after.toList::t,by rw [sG,h];simp⟩
theorem Gi:∀ (r:List Oper) (ms:List Nat) (i:Nat) (o:Oper),r[i]?=some o->∃ms',(∃t,sG r ms=ms'++t)/\ms'.length=ms.length+i/\(sG r ms).getD (ms.length+i) 0=Ai ms' o.after.toList:=by
 intro r
 induction r with
 | nil=>intro ms i o h;simp at h
 | cons q r ih =>
  intro ms i o h
  cases i with
  | zero =>
   simp at h
   subst h
   obtain ⟨t,ht⟩:=EC r (ms++[Ai ms q.after.toList])
   refine ⟨ms,EC _ _,rfl,?_⟩
   rw [sG,ht]
   simp [List.getD]
  | succ i =>
   simp only [List.getElem?_cons_succ] at h
   obtain ⟨ms',h1,h2,h3⟩:=ih (ms++[Ai ms q.after.toList]) i o h
   refine ⟨ms',h1,by rw [h2];simp;omega,?_⟩
   rw [sG,<- h3]
   congr 1
   simp;omega
theorem Jj (ms:List Nat):∀ (l:List Edge) (k:Nat),(Ai ms l).testBit k=true <-> ∃e∈l,Region.binds .any e=true/\(e.on=k\/(ms.getD e.on 0).testBit k=true):=by
 intro l
 induction l with
 | nil=>intro k;simp [Ai]
 | cons e r ih =>
  intro k
  simp only [Ai,Nat.testBit_or,Iy,ih,zl011,exists_eq_or_imp]
  cases hb:Region.binds .any e with
  | false=>simp
  | true=>simp [Nat.testBit_or,Nat.testBit_two_pow]
theorem P6 {ops:Array Oper} {i:Nat} {o:Oper} (ho:ops[i]?=some o) {e:Edge} (he:e∈o.after) (hb:Region.binds .any e=true):wo (gV ops) e.on i=true:=by
 obtain ⟨ms',_,_,h⟩:=Gi ops.toList [] i o (by simpa using ho)
 unfold wo gV
 simp only [List.length_nil,Nat.zero_add] at h
 rw [h,Jj]
 exact ⟨e,by simpa using he,hb,.inl rfl⟩
theorem oQ {ops:Array Oper} {i k:Nat} {o:Oper} (ho:ops[i]?=some o) (h:wo (gV ops) k i=true):∃e∈o.after,Region.binds .any e=true/\(e.on=k\/wo (gV ops) k e.on=true):=by
 obtain ⟨ms',⟨t,h1⟩,h2,h3⟩:=Gi ops.toList [] i o (by simpa using ho)
 unfold wo gV at *
 simp only [List.length_nil,Nat.zero_add] at h3 h2
 rw [h3,Jj] at h
 obtain ⟨e,he,hb,h⟩:=h
 refine ⟨e,by simpa using he,hb,h.imp id fun h=>?_⟩
 rw [h1]
 have:(ms'.getD e.on 0)=((ms'++t).getD e.on 0):=by
  rcases iE e.on ms'.length with hl|hl
  ·simp [List.getD,GH hl]
  ·simp [List.getD,qg hl] at h
 rw [<- this];exact h
section
variable {E:Fr} {N:Nat} {S M:Lk} {loc:Nat->Value} {fp:Nat->List Nat} {a:Act} {w:World}
theorem OW.lower {F:Nat->Prop} {h:Hp} {R R':HV->Value->Prop} {vs rvs fs} (o:OW F h R vs rvs fs) {p:Nat->Prop} (hfs:fs=[]) (hp:innL p vs) (hl:∀v rv,R v rv->∃id,fF v=some id) (hr:∀v rv id,R v rv->fF v=some id->p id->R' v rv):OW F h R' vs rvs []:=by
 induction o with
 | nil=>exact .nil
 | @leaf R v rv r rr fs a b c d e f gg _ ih =>
  simp only [aS] at hp
  have ih':=ih hfs hp.2 hl hr
  obtain ⟨id,hid⟩:=hl _ _ gg
  have:(fF v).isSome=true:=by rw [hid];rfl
  refine (dB this (hr _ _ id gg hid ?_)).cons1 ih'
  have:=hp.1
  cases v<;>simp [fF] at hid<;>subst hid<;>simpa using this
 | int _ ih=>simp only [aS] at hp;exact .int (ih hfs hp.2 hl hr)
 | bool _ ih=>simp only [aS] at hp;exact .bool (ih hfs hp.2 hl hr)
 | str _ ih=>simp only [aS] at hp;exact .str (ih hfs hp.2 hl hr)
 | nils _ ih=>simp only [aS] at hp;exact .nils (ih hfs hp.2 hl hr)
 | nilp _ ih=>simp only [aS] at hp;exact .nilp (ih hfs hp.2 hl hr)
 | nilf _ ih=>simp only [aS] at hp;exact .nilf (ih hfs hp.2 hl hr)
 | dead _ ih=>simp only [aS] at hp;exact .dead (ih hfs hp.2 hl hr)
 | sl0 _ ih=>simp only [aS] at hp;exact .sl0 (ih hfs hp.2 hl hr)
 | sl a b c d e _ _ ih=>simp only [aS] at hp;exact .sl a b c d e (ih hfs hp.2 hl hr)
 | osl0 _ ih=>simp only [aS] at hp;exact .osl0 (ih hfs hp.2 hl hr)
 | osl=>simp at hfs
 | ptr a b c d _ _ ih=>simp only [aS] at hp;exact .ptr a b c d (ih hfs hp.2 hl hr)
 | optr=>simp at hfs
 | nilm _ ih=>simp only [aS] at hp;exact .nilm (ih hfs hp.2 hl hr)
 | rmap a b c d _ _ ih=>simp only [aS] at hp;exact .rmap a b c d (ih hfs hp.2 hl hr)
 | omap=>simp at hfs
 | oitr=>simp at hfs
 | agg _ _ ih1 ih2 =>
  simp only [aS,uM] at hp
  obtain ⟨rfl,rfl⟩:_=[]/\_=[]:=by simpa using hfs
  exact .agg (ih1 rfl hp.1 hl hr) (ih2 rfl hp.2 hl hr)
 | tup _ _ ih1 ih2 =>
  simp only [aS,zM] at hp
  obtain ⟨rfl,rfl⟩:_=[]/\_=[]:=by simpa using hfs
  exact .tup (ih1 rfl hp.1 hl hr) (ih2 rfl hp.2 hl hr)
 | fn _ _ ih1 ih2 =>
  simp only [aS,D5] at hp
  obtain ⟨rfl,rfl⟩:_=[]/\_=[]:=by simpa using hfs
  exact .fn (ih1 rfl hp.1 hl hr) (ih2 rfl hp.2 hl hr)
theorem Rel.lower (hr:Rel E N S M loc fp a w) {N':Nat} (hS:∀t,(S t).inn (·<N')) (hM:∀id,M id≠.dead->id<N'):Rel E N' S M loc fp a w :=
 ⟨hr.below,hr.base,hr.size,hr.tree,hr.gone,fun id h=>by
  cases hd:M id with
  | dead=>rfl
  | _=>have:=hM id (by rw [hd];simp);omega,hr.nodup,hr.apart,hr.fresh,fun t=>(hr.slots t).lower (p:=(·<N')) rfl (by simpa using hS t) (fun v rv h=>by obtain ⟨id,h1,_⟩:=h.isRef;exact ⟨id,h1⟩) (fun v rv id h hid hp=>by
   cases v<;>simp only [fF,cO,reduceCtorEq] at hid<;>subst hid
   ·exact ⟨hp,h.2⟩
   ·exact ⟨hp,h.2⟩
   ·exact ⟨hp,h.2⟩),hr.defers⟩
theorem Rel.drew (hr:Rel E N S M loc fp a w) (n:Nat):Rel E N S M loc fp a { w with drawn:=n }:=by
 have hb:=hr.below
 exact ⟨⟨hb.os,hb.tape,hb.output,hb.size,hb.block⟩,hr.base,hr.size,hr.tree,hr.gone,hr.new,hr.nodup,hr.apart,hr.fresh,hr.slots,hr.defers⟩
theorem Rel.inv (hr:Rel E N S M loc fp a w):Inv N (fun _=>False) S M:=by
 refine ⟨fun t x hx=>.inl ?_,fun id x hx=>?_,fun id hid=>.inl ?_⟩
 ·have h1:=(hr.slots t).inn (p:=fun x=>x<N) (fun v rv id h hid=>by cases v<;>simp only [fF,cO,reduceCtorEq] at hid<;>subst hid<;>exact h.1)
  simp only [aS] at h1
  exact h1.1 x hx
 ·by_cases h:M id=.dead
  ·rw [h] at hx;cases hx
  ·have:=(hr.tree id h).inn (p:=fun _=>False) (fun _ _ _ h=>h.elim)
   simp only [aS] at this
   exact (this.1 x hx).elim
 ·rcases iE id N with h|h
  ·exact h
  ·exact absurd (hr.new id h) hid
end
section
variable {P:Program} {E:Fr} {ops:Array Oper} {D:DS} {nx:Nat} {K:Lk->Lk->Prop} {Q:Exit->Act->World->Prop}
theorem mP {masks:List Nat} {all:List af} (h:ql masks all=true) {i:Nat} {o:af} (ho:all[i]?=some o):masks.getD i 0<2 ^ i/\qL o=true/\∀k,k<i->∀q,all[k]?=some q->wo masks k i=false->Ib all q o=true:=by
 have hlt:=(zl036.1 ho).1
 simp only [ql,zl021,zl050] at h
 have:=h i hlt
 rw [ho] at this
 simp only [V9,bC,decide_eq_true_eq,zl021,zl050,Iy] at this
 refine ⟨this.1.1,this.1.2,fun k hk q hq hb=>?_⟩
 rcases this.2 k hk with h|h
 ·rw [hb] at h;cases h
 ·rw [hq] at h;exact h
theorem Vz {all:List af} (hall:all=ops.toList.map (bf P E.ok)) (hst:ql (gV ops) all=true) (hQ:∀X S M N loc fp a w,Inv nx X S M->(∀k,X k->k<ops.size)->Rel E N S M loc fp a w->K S M->Q .normal a w) :
  ∀ (fuel:Nat) (listed:Array Bool) (rem:List Nat) (log:nP) (S M:Lk) (N:Nat) (loc:Nat->Value) (fp:Nat->List Nat) (a:Act) (w:World),listed.size=ops.size->rem=(List.range ops.size).filter (fun i=>listed.getD i true==false)->rem.length<=fuel ->
   (∀i o,ops[i]?=some o->listed.getD i false=true->∀e∈o.after,Region.binds .any e=true->listed.getD e.on false=true) ->
   dr (HT2 P) D all (gV ops) nx K rem log S M->Inv nx (fun k=>listed.getD k false=true) S M->Rel E N S M loc fp a w->wpAny P .any ops Q fuel listed a w:=by
 have atH:∀i o,ops[i]?=some o->all[i]?=some (bf P E.ok o):=fun i o h=>by rw [hall,jd,uH,h];rfl
 intro fuel
 induction fuel with
 | zero =>
  intro listed rem log S M N loc fp a w hsz hrem hfu hcl hdr hI hr
  have hnil:rem=[]:=iU (by omega)
  subst hnil
  refine ⟨?_,hQ _ S M N loc fp a w hI (fun k hk=>?_) hr hdr⟩
  ·refine zl052.2 fun i hi=>?_
   obtain ⟨h1,o,ho,_⟩:=mem_ready.1 hi
   have:i∈(List.range ops.size).filter (fun i=>listed.getD i true==false):=by
    rw [zl042,zl050]
    exact ⟨(zl035.1 ho).1,by simpa using h1⟩
   rw [<- hrem] at this;cases this
  ·rcases iE k listed.size with h|h
   ·omega
   ·simp [Ez h] at hk
 | succ fuel ih =>
  intro listed rem log S M N loc fp a w hsz hrem hfu hcl hdr hI hr
  have mem:∀i,i∈rem <-> i<ops.size/\listed.getD i true=false:=fun i=>by rw [hrem,zl042,zl050];simp
  have sorted:rem.Pairwise (·<·):=by rw [hrem];exact List.pairwise_lt_range.filter _
  have lst:∀i,i<ops.size->listed.getD i true≠false->listed.getD i false=true:=fun i hi h=>by
   have hi':i<listed.size:=by omega
   simp only [kK,oC hi',kC] at h ⊢
   simpa using h
  have lst':∀i,listed.getD i false=true->listed.getD i true≠false:=fun i h=>by
   have hi':i<listed.size:=by
    rcases iE i listed.size with h'|h'
    ·exact h'
    ·simp [Ez h'] at h
   simp only [kK,oC hi',kC] at h ⊢
   simp [h]
  have opAt:∀i,i<ops.size->∃o,ops[i]?=some o:=fun i hi=>⟨ops[i],oC hi⟩
  have onlt:∀i o e,ops[i]?=some o->e∈o.after->Region.binds .any e=true->e.on<i:=fun i o e ho he hb=>by
   have h1:=(mP hst (atH i o ho)).1
   have h2:=P6 ho he hb
   unfold wo at h2
   rcases iE e.on i with h|h
   ·exact h
   ·rw [O4 (qh h1 (O9 (by omega) h))] at h2;cases h2
  have closed:∀i,∀k,wo (gV ops) k i=true->i<ops.size->listed.getD i false=true->listed.getD k false=true:=by
   intro i
   induction i using Nat.strongRecOn with
   | _ i ihi =>
    intro k hk hi hl
    obtain ⟨o,ho⟩:=opAt i hi
    obtain ⟨e,he,hb,h⟩:=oQ ho hk
    have hle:=hcl i o ho hl e he hb
    rcases h with rfl|h
    ·exact hle
    ·have:=onlt i o e ho he hb
     exact ihi e.on this k h (by omega) hle
  refine ⟨fun h0=>?_,fun i hi=>?_⟩
  ·cases hrm:rem with
   | nil =>
    rw [hrm] at hdr
    refine hQ _ S M N loc fp a w hI (fun k hk=>?_) hr hdr
    rcases iE k listed.size with h|h
    ·omega
    ·simp [Ez h] at hk
   | cons i r =>
    exfalso
    have him:i∈rem:=by rw [hrm];simp
    obtain ⟨hi,hun⟩:=(mem i).1 him
    obtain ⟨o,ho⟩:=opAt i hi
    have:i∈Region.ready .any ops listed:=mem_ready.2 ⟨hun,o,ho,fun e he hb=>by
     have h1:=onlt i o e ho he hb
     by_cases h2:listed.getD e.on true=false
     ·have h3:e.on∈rem:=(mem e.on).2 ⟨by omega,h2⟩
      rw [hrm] at h3 sorted
      rcases zl011.1 h3 with h4|h4
      ·omega
      ·have:=(zl110.1 sorted).1 e.on h4;omega
     ·exact lst e.on (by omega) h2⟩
    rw [h0] at this;cases this
  ·obtain ⟨hun,o,ho,haft⟩:=mem_ready.1 hi
   have hio:i<ops.size:=(zl035.1 ho).1
   have him:i∈rem:=(mem i).2 ⟨hio,hun⟩
   obtain ⟨l1,l2,hsplit⟩:=List.append_of_mem him
   have hnd:rem.Nodup:=sorted.imp fun h=>Nat.ne_of_lt h
   obtain ⟨hlt,hlit,hpair⟩:=mP hst (atH i o ho)
   have hXi:¬ listed.getD i false=true:=fun h=>lst' i h hun
   rw [hsplit] at hdr sorted hnd
   have hfr:=L9 (atH i o ho) hlit l1 l2 _ log S M hI hXi (fun k hk=>by
    have hkm:k∈rem:=by rw [hsplit];simp [hk]
    obtain ⟨hk1,hk2⟩:=(mem k).1 hkm
    have hki:k<i:=(List.pairwise_append.1 sorted).2.2 k hk i (by simp)
    obtain ⟨q,hq⟩:=opAt k hk1
    obtain ⟨hlt',hlit',_⟩:=mP hst (atH k q hq)
    have hXk:¬ listed.getD k false=true:=fun h=>lst' k h hk2
    have b1:wo (gV ops) k i=false:=by
     cases hb:wo (gV ops) k i with
     | false=>rfl
     | true =>
      exfalso
      obtain ⟨e,he,hbb,h⟩:=oQ ho hb
      have hle:=haft e he hbb
      rcases h with rfl|h
      ·exact hXk hle
      ·have:=onlt i o e ho he hbb
       exact hXk (closed e.on k h (by omega) hle)
    refine ⟨by omega,hXk,_,atH k q hq,hlit',hpair k hki _ (atH k q hq) b1,b1,?_⟩
    unfold wo
    exact O4 (qh hlt' (O9 (by omega) (Nat.le_of_lt hki)))) (zl006.1 hnd).1 hdr
   obtain ⟨o',ho',hs,_,hnext⟩:=hfr
   rw [atH i o ho] at ho';cases ho'
   subst hall
   refine Je ho hr hI hXi hlit hs fun e a' w' hres ⟨N',loc',fp',hr'⟩=>?_
   obtain ⟨f1,f2,_,_⟩:=um hI hlit hs hres
   have hI':=hI.step (o:=bf P E.ok o) f1 f2
   have hset:∀k,(listed.setIfInBounds i true).getD k false=true <-> (listed.getD k false=true\/k=i):=fun k=>by
    by_cases hk:k=i
    ·subst hk;simp [hsz,hio]
    ·rw [getD_set_ne false (fun h=>hk h.symm)];simp [hk]
   refine ih (listed.setIfInBounds i true) (l1++l2) _ _ _ N' loc' fp' a' w' (by simpa using hsz) ?_ ?_ ?_ (hnext e hres).2 ⟨fun t=>HV.inn_mono (hI'.slots t) fun x hx=>pI (fun k hk=>(hset k).2 hk) hx,fun id=>HV.inn_mono (hI'.trees id) fun x hx=>pI (fun k hk=>(hset k).2 hk) hx,fun id h=>pI (fun k hk=>(hset k).2 hk) (hI'.alive id h)⟩ hr'
   ·have e1:(List.range ops.size).filter (fun k=>(listed.setIfInBounds i true).getD k true==false)=((List.range ops.size).filter (fun k=>listed.getD k true==false)).filter (fun k=>k != i):=by
     rw [List.filter_filter]
     refine List.filter_congr fun k hk=>?_
     by_cases hki:k=i
     ·subst hki
      have:k<listed.size:=by omega
      simp [this]
     ·rw [getD_set_ne true (fun h=>hki h.symm)];simp [hki]
    rw [e1,<- hrem,hsplit]
    rw [zl006] at hnd
    obtain ⟨n1,n2,n3⟩:=hnd
    rw [zl027] at n2
    rw [Ey,List.filter_cons_of_neg (by simp),zl091.2,zl091.2]
    ·intro k hk;simp;exact fun e=>n2.1 (e▸hk)
    ·intro k hk;simp;exact fun e=>n3 k hk i (by simp) e
   ·rw [hsplit] at hfu;simp at hfu ⊢;omega
   ·intro k q hq hl e' he' hb'
    rcases (hset k).1 hl with h|rfl
    ·exact (hset _).2 (.inl (hcl k q hq h e' he' hb'))
    ·rw [ho] at hq;cases hq
     exact (hset _).2 (.inl (haft e' he' hb'))
theorem UR {all:List af} (hall:all=ops.toList.map (bf P E.ok)) (hst:ql (gV ops) all=true) (n:Nat) (hn:n<=ops.size) (hlast:∀i,n<=i->i<ops.size->∀k,k<i->wo (gV ops) k i=true)
  (hQ:∀fuel (listed:Array Bool) X S M N loc fp a w,ops.size - n<=fuel->listed.size=ops.size->(∀k,k<n->listed.getD k false=true)->(∀k,n<=k->k<ops.size->listed.getD k true=false)->Inv nx X S M->(∀k,X k->k<n)->Rel E N S M loc fp a w->K S M->wpAny P .any ops Q fuel listed a w) :
  ∀ (fuel:Nat) (listed:Array Bool) (rem:List Nat) (log:nP) (S M:Lk) (N:Nat) (loc:Nat->Value) (fp:Nat->List Nat) (a:Act) (w:World),listed.size=ops.size->rem=(List.range n).filter (fun i=>listed.getD i true==false)->(∀k,n<=k->k<ops.size->listed.getD k true=false)->rem.length+(ops.size - n)<=fuel ->
   (∀i o,ops[i]?=some o->listed.getD i false=true->∀e∈o.after,Region.binds .any e=true->listed.getD e.on false=true) ->
   dr (HT2 P) D all (gV ops) nx K rem log S M->Inv nx (fun k=>listed.getD k false=true) S M->Rel E N S M loc fp a w->wpAny P .any ops Q fuel listed a w:=by
 have atH:∀i o,ops[i]?=some o->all[i]?=some (bf P E.ok o):=fun i o h=>by rw [hall,jd,uH,h];rfl
 intro fuel
 induction fuel with
 | zero =>
  intro listed rem log S M N loc fp a w hsz hrem hsuf hfu hcl hdr hI hr
  have hnil:rem=[]:=iU (by omega)
  subst hnil
  have hall':∀k,k<n->listed.getD k false=true:=fun k hk=>by
   have hk':k<listed.size:=by omega
   have:¬ k∈(List.range n).filter (fun i=>listed.getD i true==false):=by rw [<- hrem];simp
   rw [zl042,zl050] at this
   simp only [kK,oC hk',kC] at this ⊢
   simpa [hk] using this
  refine hQ 0 listed _ S M N loc fp a w (by omega) hsz hall' hsuf hI (fun k hk=>?_) hr hdr
  rcases iE k n with h|h
  ·exact h
  ·exfalso
   have hk':k<listed.size:=by
    rcases iE k listed.size with h'|h'
    ·exact h'
    ·simp [Ez h'] at hk
   have:=hsuf k h (by omega)
   simp only [kK,oC hk',kC] at this hk
   rw [this] at hk;cases hk
 | succ fuel ih =>
  intro listed rem log S M N loc fp a w hsz hrem hsuf hfu hcl hdr hI hr
  have mem:∀i,i∈rem <-> i<n/\listed.getD i true=false:=fun i=>by rw [hrem,zl042,zl050];simp
  have sorted:rem.Pairwise (·<·):=by rw [hrem];exact List.pairwise_lt_range.filter _
  have lst:∀i,i<ops.size->listed.getD i true≠false->listed.getD i false=true:=fun i hi h=>by
   have hi':i<listed.size:=by omega
   simp only [kK,oC hi',kC] at h ⊢
   simpa using h
  have lst':∀i,listed.getD i false=true->listed.getD i true≠false:=fun i h=>by
   have hi':i<listed.size:=by
    rcases iE i listed.size with h'|h'
    ·exact h'
    ·simp [Ez h'] at h
   simp only [kK,oC hi',kC] at h ⊢
   simp [h]
  have opAt:∀i,i<ops.size->∃o,ops[i]?=some o:=fun i hi=>⟨ops[i],oC hi⟩
  have onlt:∀i o e,ops[i]?=some o->e∈o.after->Region.binds .any e=true->e.on<i:=fun i o e ho he hb=>by
   have h1:=(mP hst (atH i o ho)).1
   have h2:=P6 ho he hb
   unfold wo at h2
   rcases iE e.on i with h|h
   ·exact h
   ·rw [O4 (qh h1 (O9 (by omega) h))] at h2;cases h2
  have closed:∀i,∀k,wo (gV ops) k i=true->i<ops.size->listed.getD i false=true->listed.getD k false=true:=by
   intro i
   induction i using Nat.strongRecOn with
   | _ i ihi =>
    intro k hk hi hl
    obtain ⟨o,ho⟩:=opAt i hi
    obtain ⟨e,he,hb,h⟩:=oQ ho hk
    have hle:=hcl i o ho hl e he hb
    rcases h with rfl|h
    ·exact hle
    ·have:=onlt i o e ho he hb
     exact ihi e.on this k h (by omega) hle
  by_cases hrn:rem=[]
  ·subst hrn
   refine hQ (fuel+1) listed _ S M N loc fp a w (by simpa using hfu) hsz (fun k hk=>?_) hsuf hI (fun k hk=>?_) hr hdr
   ·exact lst k (by omega) fun h=>by have:=(mem k).2 ⟨hk,h⟩;cases this
   ·rcases iE k n with h|h
    ·exact h
    ·exfalso
     have hk':k<listed.size:=by
      rcases iE k listed.size with h'|h'
      ·exact h'
      ·simp [Ez h'] at hk
     exact lst' k hk (hsuf k h (by omega))
  have hin:∀i,i∈Region.ready .any ops listed->i<n:=fun i hi=>by
   obtain ⟨hun,o,ho,haft⟩:=mem_ready.1 hi
   have hio:i<ops.size:=(zl035.1 ho).1
   rcases iE i n with h|h
   ·exact h
   ·exfalso
    obtain ⟨k,hk⟩:=PV rem hrn
    obtain ⟨hk1,hk2⟩:=(mem k).1 hk
    have hXk:¬ listed.getD k false=true:=fun h=>lst' k h hk2
    obtain ⟨e,he,hbb,h3⟩:=oQ ho (hlast i h hio k (by omega))
    have hle:=haft e he hbb
    rcases h3 with rfl|h3
    ·exact hXk hle
    ·have:=onlt i o e ho he hbb
     exact hXk (closed e.on k h3 (by omega) hle)
  refine ⟨fun h0=>?_,fun i hi=>?_⟩
  ·exfalso
   cases hrm:rem with
   | nil=>exact hrn hrm
   | cons i r =>
    have him:i∈rem:=by rw [hrm];simp
    obtain ⟨hi,hun⟩:=(mem i).1 him
    obtain ⟨o,ho⟩:=opAt i (by omega)
    have:i∈Region.ready .any ops listed:=mem_ready.2 ⟨hun,o,ho,fun e he hb=>by
     have h1:=onlt i o e ho he hb
     by_cases h2:listed.getD e.on true=false
     ·have h3:e.on∈rem:=(mem e.on).2 ⟨by omega,h2⟩
      rw [hrm] at h3 sorted
      rcases zl011.1 h3 with h4|h4
      ·omega
      ·have:=(zl110.1 sorted).1 e.on h4;omega
     ·exact lst e.on (by omega) h2⟩
    rw [h0] at this;cases this
  ·have hin':=hin i hi
   obtain ⟨hun,o,ho,haft⟩:=mem_ready.1 hi
   have hio:i<ops.size:=(zl035.1 ho).1
   have him:i∈rem:=(mem i).2 ⟨hin',hun⟩
   obtain ⟨l1,l2,hsplit⟩:=List.append_of_mem him
   have hnd:rem.Nodup:=sorted.imp fun h=>Nat.ne_of_lt h
   obtain ⟨hlt,hlit,hpair⟩:=mP hst (atH i o ho)
   have hXi:¬ listed.getD i false=true:=fun h=>lst' i h hun
   rw [hsplit] at hdr sorted hnd
   have hfr:=L9 (atH i o ho) hlit l1 l2 _ log S M hI hXi (fun k hk=>by
    have hkm:k∈rem:=by rw [hsplit];simp [hk]
    obtain ⟨hk1,hk2⟩:=(mem k).1 hkm
    have hki:k<i:=(List.pairwise_append.1 sorted).2.2 k hk i (by simp)
    obtain ⟨q,hq⟩:=opAt k (by omega)
    obtain ⟨hlt',hlit',_⟩:=mP hst (atH k q hq)
    have hXk:¬ listed.getD k false=true:=fun h=>lst' k h hk2
    have b1:wo (gV ops) k i=false:=by
     cases hb:wo (gV ops) k i with
     | false=>rfl
     | true =>
      exfalso
      obtain ⟨e,he,hbb,h⟩:=oQ ho hb
      have hle:=haft e he hbb
      rcases h with rfl|h
      ·exact hXk hle
      ·have:=onlt i o e ho he hbb
       exact hXk (closed e.on k h (by omega) hle)
    refine ⟨by omega,hXk,_,atH k q hq,hlit',hpair k hki _ (atH k q hq) b1,b1,?_⟩
    unfold wo
    exact O4 (qh hlt' (O9 (by omega) (Nat.le_of_lt hki)))) (zl006.1 hnd).1 hdr
   obtain ⟨o',ho',hs,_,hnext⟩:=hfr
   rw [atH i o ho] at ho';cases ho'
   subst hall
   refine Je ho hr hI hXi hlit hs fun e a' w' hres ⟨N',loc',fp',hr'⟩=>?_
   obtain ⟨f1,f2,_,_⟩:=um hI hlit hs hres
   have hI':=hI.step (o:=bf P E.ok o) f1 f2
   have hset:∀k,(listed.setIfInBounds i true).getD k false=true <-> (listed.getD k false=true\/k=i):=fun k=>by
    by_cases hk:k=i
    ·subst hk;simp [hsz,hio]
    ·rw [getD_set_ne false (fun h=>hk h.symm)];simp [hk]
   refine ih (listed.setIfInBounds i true) (l1++l2) _ _ _ N' loc' fp' a' w' (by simpa using hsz) ?_ ?_ ?_ ?_ (hnext e hres).2 ⟨fun t=>HV.inn_mono (hI'.slots t) fun x hx=>pI (fun k hk=>(hset k).2 hk) hx,fun id=>HV.inn_mono (hI'.trees id) fun x hx=>pI (fun k hk=>(hset k).2 hk) hx,fun id h=>pI (fun k hk=>(hset k).2 hk) (hI'.alive id h)⟩ hr'
   ·have e1:(List.range n).filter (fun k=>(listed.setIfInBounds i true).getD k true==false)=((List.range n).filter (fun k=>listed.getD k true==false)).filter (fun k=>k != i):=by
     rw [List.filter_filter]
     refine List.filter_congr fun k hk=>?_
     rw [zl050] at hk
     by_cases hki:k=i
     ·subst hki
      have:k<listed.size:=by omega
      simp [this]
     ·rw [getD_set_ne true (fun h=>hki h.symm)];simp [hki]
    rw [e1,<- hrem,hsplit]
    rw [zl006] at hnd
    obtain ⟨n1,n2,n3⟩:=hnd
    rw [zl027] at n2
    rw [Ey,List.filter_cons_of_neg (by simp),zl091.2,zl091.2]
    ·intro k hk;simp;exact fun e=>n2.1 (e▸hk)
    ·intro k hk;simp;exact fun e=>n3 k hk i (by simp) e
   ·intro k hk1 hk2
    rw [getD_set_ne true (by omega)];exact hsuf k hk1 hk2
   ·rw [hsplit] at hfu;simp at hfu ⊢;omega
   ·intro k q hq hl e' he' hb'
    rcases (hset k).1 hl with h|rfl
    ·exact (hset _).2 (.inl (hcl k q hq h e' he' hb'))
    ·rw [ho] at hq;cases hq
     exact (hset _).2 (.inl (haft e' he' hb'))
end
end Go.HL
end
