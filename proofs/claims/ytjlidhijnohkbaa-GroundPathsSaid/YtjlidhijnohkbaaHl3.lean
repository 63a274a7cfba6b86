import Derived.Test.YtjlidhijnohkbaaHl2
import Derived.Orders
set_option linter.unusedSimpArgs false
set_option linter.unusedVariables false
section
namespace Go.HL
open Go.RowKit
mutual
def HV.deep:HV->List Nat
 | .ref i _ _ _ _=>[i]
 | .pref i _ _=>[i]
 | .sl _ cs=>aN cs
 | .osl _ _ cs=>aN cs
 | .ptr cs _=>aN cs
 | .optr cs=>aN cs
 | .agg cs=>aN cs
 | .tup cs=>aN cs
 | .fn _ cs=>aN cs
 | .rmap _ _ cs=>aN cs
 | .omap _ _ cs=>aN cs
 | .mref i _=>[i]
 | _=>[]
def aN:List HV->List Nat
 | []=>[]
 | v::r=>v.deep++aN r
end
def HV.inn (p:Nat->Prop) (v:HV):Prop:=∀x∈v.deep,p x
def innL (p:Nat->Prop) (l:List HV):Prop:=∀v∈l,v.inn p
theorem mem_deepL {x:Nat} {l:List HV}:x∈aN l <-> ∃v∈l,x∈v.deep:=by
 induction l with
 | nil=>simp [aN]
 | cons v r ih=>simp [aN,ih]
theorem innL_iff {p:Nat->Prop} {l:List HV}:innL p l <-> ∀x∈aN l,p x:=by
 unfold innL HV.inn
 constructor
 ·intro h x hx
  obtain ⟨v,hv,hx⟩:=mem_deepL.1 hx
  exact h v hv x hx
 ·intro h v hv x hx
  exact h x (mem_deepL.2 ⟨v,hv,hx⟩)
section
variable {p:Nat->Prop}
@[simp] theorem jU {k n}:(HV.int k n).inn p:=by simp [HV.inn,HV.deep]
@[simp] theorem lG {b}:(HV.bool b).inn p:=by simp [HV.inn,HV.deep]
@[simp] theorem N9 {b}:(HV.str b).inn p:=by simp [HV.inn,HV.deep]
@[simp] theorem RU:HV.nils.inn p:=by simp [HV.inn,HV.deep]
@[simp] theorem RV:HV.nilp.inn p:=by simp [HV.inn,HV.deep]
@[simp] theorem Sv:HV.nilf.inn p:=by simp [HV.inn,HV.deep]
@[simp] theorem aV:HV.dead.inn p:=by simp [HV.inn,HV.deep]
@[simp] theorem DT {i q sz o n}:(HV.ref i q sz o n).inn p <-> p i:=by simp [HV.inn,HV.deep]
@[simp] theorem vI {i q o}:(HV.pref i q o).inn p <-> p i:=by simp [HV.inn,HV.deep]
@[simp] theorem LM {n cs}:(HV.sl n cs).inn p <-> innL p cs:=by rw [innL_iff];rfl
@[simp] theorem sH {sz n cs}:(HV.osl sz n cs).inn p <-> innL p cs:=by rw [innL_iff];rfl
@[simp] theorem yF {n cs}:(HV.ptr cs n).inn p <-> innL p cs:=by rw [innL_iff];rfl
@[simp] theorem Gn {cs}:(HV.optr cs).inn p <-> innL p cs:=by rw [innL_iff];rfl
@[simp] theorem nZ {cs}:(HV.agg cs).inn p <-> innL p cs:=by rw [innL_iff];rfl
@[simp] theorem sJ {cs}:(HV.tup cs).inn p <-> innL p cs:=by rw [innL_iff];rfl
@[simp] theorem wW {f cs}:(HV.fn f cs).inn p <-> innL p cs:=by rw [innL_iff];rfl
@[simp] theorem QW:HV.nilm.inn p:=by simp [HV.inn,HV.deep]
@[simp] theorem RH {b s l c}:(HV.oitr b s l c).inn p:=by simp [HV.inn,HV.deep]
@[simp] theorem vN {i q}:(HV.mref i q).inn p <-> p i:=by simp [HV.inn,HV.deep]
@[simp] theorem yX {m ks cs}:(HV.rmap m ks cs).inn p <-> innL p cs:=by rw [innL_iff];rfl
@[simp] theorem oV {m ks cs}:(HV.omap m ks cs).inn p <-> innL p cs:=by rw [innL_iff];rfl
@[simp] theorem Gq:innL p []:=by simp [innL]
@[simp] theorem ay {v l}:innL p (v::l) <-> v.inn p/\innL p l:=by simp [innL]
@[simp] theorem x9 {l l'}:innL p (l++l') <-> innL p l/\innL p l':=by
 simp only [innL,zl001]
 exact ⟨fun h=>⟨fun v hv=>h v (.inl hv),fun v hv=>h v (.inr hv)⟩,fun h v hv=>hv.elim (h.1 v) (h.2 v)⟩
theorem innL.take {l} (h:innL p l) (n:Nat):innL p (l.take n):=fun v hv=>h v (zN hv)
theorem innL.drop {l} (h:innL p l) (n:Nat):innL p (l.drop n):=fun v hv=>h v (Fh hv)
theorem innL.win {l} (h:innL p l) (a b:Nat):innL p (win l a b):=by
 unfold HL.win;split
 ·exact h
 ·exact (h.drop _).take _
theorem innL.getD {l} (h:innL p l) (n:Nat):(l.getD n .dead).inn p:=by
 rw [dW]
 cases hn:l[n]? with
 | none=>simp
 | some v=>exact h v (List.mem_of_getElem? hn)
theorem innL.set {l} (h:innL p l) (n:Nat) {v:HV} (hv:v.inn p):innL p (l.set n v):=fun u hu=>by
 rcases List.mem_or_eq_of_mem_set hu with hu|rfl
 ·exact h u hu
 ·exact hv
theorem jX {v:HV} (h:v.inn p) (q:List Nat):(ah v q).inn p:=by
 induction q generalizing v with
 | nil=>simpa [ah] using h
 | cons j q ih =>
  cases v<;>simp only [ah,aV]
  ·exact ih (innL.getD (by simpa using h) j)
  ·exact ih (innL.getD (by simpa using h) j)
  ·exact ih (innL.getD (by simpa using h) j)
theorem vP {x v:HV} (hx:x.inn p) (h:v.inn p) (q:List Nat):(cu x v q).inn p:=by
 induction q generalizing v with
 | nil=>simpa [cu] using hx
 | cons j q ih =>
  cases v<;>simp only [cu]<;>(first|exact h|skip)
  ·simp only [sH] at h ⊢
   exact h.set j (ih (h.getD j))
  ·simp only [Gn] at h ⊢
   exact h.set j (ih (h.getD j))
  ·simp only [oV] at h ⊢
   exact h.set j (ih (h.getD j))
theorem zl {v:HV} (h:v.inn p):innL p (aJ v):=by cases v<;>simp_all [aJ]
theorem Eu {v:HV} {cs:List HV} (h:v.inn p) (hc:innL p cs):(bu cs v).inn p:=by cases v<;>simp_all [bu]
theorem rQ {cs l:List HV} (h:innL p cs) (hl:innL p l) (o:Nat):innL p (setFrom cs o l):=by
 induction l generalizing cs o with
 | nil=>simpa [setFrom] using h
 | cons v r ih =>
  simp only [ay] at hl
  exact ih (h.set o hl.1) hl.2 (o+1)
theorem tK {v:HV} (h:v.inn p):innL p (cellsOf v):=by
 unfold cellsOf;split
 ·simpa using h
 ·simpa using h
theorem Gl {v:HV} {id j:Nat} {q:List Nat} (hi:p id) (h:v.inn p):(look id q j v).inn p:=by
 unfold look
 split<;>(try split)<;>first|exact aV|exact h|simpa using hi
theorem F6 {zs:List HV} {ps:List (Nat×Nat×HV)} (h:innL p zs) (hp:∀q∈ps,q.2.2.inn p):innL p (lN zs ps).1:=by
 induction ps generalizing zs with
 | nil=>exact h
 | cons q r ih =>
  obtain ⟨o,sz,v⟩:=q
  simp only [lN]
  exact ih (rQ h (tK (hp (o,sz,v) (by simp))) o) fun q hq=>hp q (by simp [hq])
def Ou (p:Nat->Prop):dJ->Prop
 | .put id t=>p id/\t.inn p
 | .kill ..=>True
def fP:List dJ->List Nat
 | []=>[]
 | .put id _::r=>id::fP r
 | .kill ..::r=>fP r
theorem xJ (a b:List dJ):fP (a++b)=fP a++fP b:=by
 induction a with
 | nil=>rfl
 | cons u a ih=>cases u<;>simp [fP,ih]
theorem Ol {L:Lk} {us:List dJ} (h:∀id,(L id).inn p) (hu:∀u∈us,Ou p u) (id:Nat):(Lk.upd L us id).inn p:=by
 induction us generalizing L with
 | nil=>exact h id
 | cons u us ih =>
  cases u with
  | put i t =>
   refine ih (L:=fun j=>if j=i then t else L j) (fun j=>?_) fun u hu'=>hu u (by simp [hu'])
   split
   ·exact (hu (.put i t) (by simp)).2
   ·exact h j
  | kill i n=>exact ih h fun u hu'=>hu u (by simp [hu'])
theorem kZ {L:Lk} {us:List dJ} {id:Nat} (h:id ∉ fP us):Lk.upd L us id=L id:=by
 induction us generalizing L with
 | nil=>rfl
 | cons u us ih =>
  cases u with
  | put i t =>
   simp only [fP,zl008,not_or] at h
   simp only [Lk.upd]
   rw [ih h.2,if_neg h.1]
  | kill i n=>exact ih h
theorem uP {L L':Lk} {us:List dJ} {id:Nat} (h:id∈fP us\/L id=L' id):Lk.upd L us id=Lk.upd L' us id:=by
 induction us generalizing L L' with
 | nil=>rcases h with h|h;cases h;exact h
 | cons u us ih =>
  cases u with
  | put i t =>
   simp only [Lk.upd]
   refine ih ?_
   simp only [fP,zl008] at h
   by_cases hi:id=i
   ·right;simp [hi]
   ·rcases h with (h|h)|h
    ·exact absurd h hi
    ·exact .inl h
    ·right;simp [hi,h]
  | kill i n=>exact ih h
end
def Le (D:List Nat) (p:Nat->Prop):dJ->Prop
 | .put id t=>id∈D/\t.inn p
 | .kill ..=>True
section
variable {p:Nat->Prop} {L L':Lk} {D:List Nat}
theorem aS {v:HV} (hv:v.inn p) (hD:∀x∈v.deep,x∈D) (hL:∀id,(L id).inn p):(takeC L v).1.inn p/\(∀u∈(takeC L v).2.1,Le D p u)/\∀u∈(takeC L v).2.1,∃id t,u=.put id t:=by
 unfold takeC
 split
 ·rename_i id _ off n
  have:=hL id
  split
  ·rename_i sz m cs h
   rw [h] at this
   exact ⟨this,by simp [Le];exact hD id (by simp [HV.deep]),by simp⟩
  ·simp
 ·rename_i id off
  have:=hL id
  split
  ·rename_i cs h
   rw [h] at this
   exact ⟨this,by simp [Le];exact hD id (by simp [HV.deep]),by simp⟩
  ·simp
 ·rename_i id
  have:=hL id
  split
  ·rename_i m ks cs h
   rw [h] at this
   exact ⟨this,by simp [Le];exact hD id (by simp [HV.deep]),by simp⟩
  ·simp
 all_goals first|exact ⟨hv,by simp,by simp⟩|simp
theorem bC {v:HV} (h:∀x∈v.deep,L x=L' x):takeC L v=takeC L' v:=by
 unfold takeC
 split<;>first|rfl|skip
 ·rename_i id _ off n;rw [h id (by simp [HV.deep])]
 ·rename_i id off;rw [h id (by simp [HV.deep])]
 ·rename_i id;rw [h id (by simp [HV.deep])]
theorem uU (hL:∀id,(L id).inn p) {us:List dJ} (h:∀u∈us,Le D p u) (id:Nat):(Lk.upd L us id).inn p:=by
 induction us generalizing L with
 | nil=>exact hL id
 | cons u us ih =>
  cases u with
  | put i t =>
   refine ih (L:=fun j=>if j=i then t else L j) (fun j=>?_) fun u hu'=>h u (by simp [hu'])
   split
   ·exact (h (.put i t) (by simp)).2
   ·exact hL j
  | kill i n=>exact ih hL fun u hu'=>h u (by simp [hu'])
theorem zy {l:List HV}:∀ {L:Lk},innL p l->(∀x∈aN l,x∈D)->(∀id,(L id).inn p)->innL p (dO L l).1/\(∀u∈(dO L l).2.1,Le D p u)/\∀u∈(dO L l).2.1,∃id t,u=.put id t:=by
 induction l with
 | nil=>intro L h hD hL;simp [dO]
 | cons v r ih =>
  intro L h hD hL
  simp only [ay] at h
  simp only [aN,zl001] at hD
  obtain ⟨a1,a2,a3⟩:=aS (L:=L) h.1 (fun x hx=>hD x (.inl hx)) hL
  obtain ⟨b1,b2,b3⟩:=ih (L:=Lk.upd L (takeC L v).2.1) h.2 (fun x hx=>hD x (.inr hx)) (uU hL a2)
  simp only [dO,ay,zl001]
  exact ⟨⟨a1,b1⟩,fun u hu=>hu.elim (a2 u) (b2 u),fun u hu=>hu.elim (a3 u) (b3 u)⟩
theorem rH {l:List HV}:∀ {L L':Lk},(∀x∈aN l,L x=L' x)->dO L l=dO L' l:=by
 induction l with
 | nil=>intros;rfl
 | cons v r ih =>
  intro L L' h
  simp only [aN,zl001] at h
  have e1:=bC (L:=L) (L':=L') fun x hx=>h x (.inl hx)
  have e2:=ih (L:=Lk.upd L (takeC L v).2.1) (L':=Lk.upd L' (takeC L v).2.1) fun x hx=>uP (.inr (h x (.inr hx)))
  simp only [dO,<- e1,e2]
end
def HOp.vals {α:Type}:HOp α->List α
 | .mv _ x=>[x]|.pick c a b=>[c,a,b]|.bin _ x y=>[x,y]|.beq _ x y=>[x,y]|.aeq _ _ x y=>[x,y]|.un _ x=>[x]|.conv _ x=>[x]
 | .newv _ x=>[x]|.newz _=>[]|.bld _ ps=>ps.map (·.2.2)|.bsl _ _ xs=>xs|.load _ _ x=>[x]|.store _ _ x y=>[x,y]|.nilck x=>[x]
 | .mkfn _ xs=>xs|.mksl _ _ _ l=>[l]|.slc _ x lo hi=>x::(lo.toList++hi.toList)|.faddr _ x=>[x]|.fld _ _ _ x=>[x]|.iaddr _ x i=>[x,i]|.ext x _=>[x]
 | .len x=>[x]|.app _ _ _ s x=>[s,x]|.mm _ x y=>[x,y]|.cpy x y=>[x,y]|.slz _ x=>[x]|.isn _ x=>[x]
 | .mnil _ x=>[x]|.mkmap _=>[]|.mlook _ _ _ x k=>[x,k]|.mset _ x k v=>[x,k,v]|.mlen x=>[x]|.mrng x=>[x]|.mnxt x=>[x]|.ment x=>[x]|.tostr x=>[x]|.call _ xs=>xs|.callv x xs=>x::xs|.bi _ _ _ xs=>xs|.bad=>[]
def HOp.lits {α:Type}:HOp α->List HV
 | .newz zs=>zs|.bld zs _=>zs|.mksl _ _ z _=>z|.mlook _ _ z _ _=>[z]|_=>[]
def HOp.wrt {α:Type}:HOp α->Bool
 | .newv ..=>true|.bsl ..=>true|.store ..=>true|.app ..=>true|.cpy ..=>true|.mset ..=>true|_=>false
def HOp.touch {α:Type}:HOp α->Bool
 | .newv ..=>true|.bsl ..=>true|.store ..=>true|.app ..=>true|.cpy ..=>true|.load ..=>true|.mset ..=>true|.mlook ..=>true|.mlen _=>true|.mnil ..=>true|.tostr _=>true|.call ..=>true|.callv ..=>true|.bi ..=>true|_=>false
def HOp.killer {α:Type}:HOp α->Bool
 | .store f ..=>!f|.mset ..=>true|_=>false
def HOp.wrtO {α:Type} (own:FuncId->Bool):HOp α->Bool
 | .call f _=>own f
 | op=>op.wrt
theorem HOp.wrtO_map {α β:Type} (own:FuncId->Bool) (g:α->β) (o:HOp α):(o.map g).wrtO own=o.wrtO own:=by cases o<;>rfl
theorem HOp.wrtO_of {α:Type} (own:FuncId->Bool) {o:HOp α} (h:o.wrt=true):o.wrtO own=true:=by cases o<;>first|exact h|cases h
theorem HOp.wrtO_no {α:Type} (o:HOp α):o.wrtO (fun _=>false)=o.wrt:=by cases o<;>rfl
theorem HOp.vals_map {α β:Type} (g:α->β) (o:HOp α):(o.map g).vals=o.vals.map g:=by
 cases o<;>simp [HOp.vals,HOp.map]
 rename_i lo hi;cases lo<;>cases hi<;>simp
theorem HOp.lits_map {α β:Type} (g:α->β) (o:HOp α):(o.map g).lits=o.lits:=by cases o<;>rfl
theorem HOp.touch_map {α β:Type} (g:α->β) (o:HOp α):(o.map g).touch=o.touch:=by cases o<;>rfl
theorem HOp.killer_map {α β:Type} (g:α->β) (o:HOp α):(o.map g).killer=o.killer:=by cases o<;>rfl
def Rw (mk:Nat->HV):Prop:=(∃sz n,mk=fun fr=>.ref fr [] sz 0 n)\/(mk=fun fr=>.pref fr [] 0)\/mk=fun fr=>.mref fr []
section
variable {p:Nat->Prop} {L L':Lk} {D:List Nat}
def Shape (L:Lk) (p:Nat->Prop) (D:List Nat) (op:HOp HV):Prop :=
 ∃us0,(∀u∈us0,Le D p u)/\(op.wrt=false->us0=[])/\(op.killer=false->∀u∈us0,∃id t,u=.put id t) /\
  ((∃v q,v.inn p/\∀fr,ae L fr op=(v,us0,q))\/(∃mk T q,Rw mk/\T.inn p/\∀fr,ae L fr op=(mk fr,us0++[.put fr T],q)))
theorem Shape.pure {op:HOp HV} (h:∀fr,ae L fr op=ae L 0 op) (h1:(ae L 0 op).2.1=[]) (h2:(ae L 0 op).1.inn p):Shape L p D op :=
 ⟨[],by simp,fun _=>rfl,by simp,.inl ⟨_,_,h2,fun fr=>by rw [h fr,<- h1]⟩⟩
theorem Shape.dead {op:HOp HV} {q:Prop} (h:∀fr,ae L fr op=(.dead,[],q)):Shape L p D op:=⟨[],by simp,fun _=>rfl,by simp,.inl ⟨_,_,aV,h⟩⟩
theorem Shape.mk {op:HOp HV} {mk:Nat->HV} {us0:List dJ} {T:HV} {q:Prop} (h:∀fr,ae L fr op=(mk fr,us0++[.put fr T],q)) (hm:Rw mk) (hT:T.inn p) (hu:∀u∈us0,Le D p u) (hw:op.wrt=false->us0=[]) (hk:∀u∈us0,∃id t,u=.put id t):Shape L p D op :=
 ⟨us0,hu,hw,fun _=>hk,.inr ⟨mk,T,q,hm,hT,h⟩⟩
theorem IA {op:BinOp} {x y:HV}:(DC op x y).1.inn p:=by
 unfold DC
 split<;>(try split)<;>first|exact jU|exact lG|exact aV
theorem JS {l:List HV} (h:innL p l):innL p (l.flatMap cellsOf):=fun v hv=>by
 obtain ⟨u,hu,hv⟩:=zl086.1 hv
 exact tK (h u hu) v hv
theorem ng {v:HV} {x:Nat} (h:x∈aN (cellsOf v)):x∈v.deep:=by
 unfold cellsOf at h
 split at h
 ·exact h
 ·simpa [aN] using h
theorem wF {l:List HV} {x:Nat} (h:x∈aN (l.flatMap cellsOf)):x∈aN l:=by
 rw [mem_deepL] at h ⊢
 obtain ⟨v,hv,hx⟩:=h
 obtain ⟨u,hu,hv⟩:=zl086.1 hv
 exact ⟨u,hu,ng (mem_deepL.2 ⟨v,hv,hx⟩)⟩
theorem Jm {fl:Bool} {sz:Nat} {v:HV} (hv:v.inn p) (hD:∀x∈v.deep,x∈D) (hL:∀id,(L id).inn p):innL p (aU L fl sz v).2.1/\(∀u∈(aU L fl sz v).2.2.1,Le D p u)/\∀u∈(aU L fl sz v).2.2.1,∃id t,u=.put id t:=by
 unfold aU
 split
 ·simp
 ·exact ⟨by simpa using hv,by simp,by simp⟩
 ·rename_i id q sz' off m
  have:=jX (hL id) q
  split
  ·rename_i cs h
   rw [h] at this
   simp only [sH] at this
   split
   ·exact ⟨this.win _ _,by simp,by simp⟩
   ·exact ⟨this,by simp [Le];exact hD id (by simp [HV.deep]),by simp⟩
  ·simp
 ·simp
theorem Ag {fl:Bool} {sz:Nat} {v:HV} (h:∀x∈v.deep,L x=L' x):aU L fl sz v=aU L' fl sz v:=by
 unfold aU
 split<;>first|rfl|skip
 ·rename_i id q sz' off m;rw [h id (by simp [HV.deep])]
theorem oq {ok b:Bool} {v:HV} (h:v.inn p):(okV ok v b).inn p:=by cases ok<;>simp [okV,h]
theorem Di {cs:List HV}:(strOf cs).1.inn p:=by unfold strOf;split<;>simp
theorem BP {cs:List HV}:(strOf cs).2.1=[]:=by unfold strOf;split<;>rfl
theorem MH {m:MK} {ks cs:List HV} {k v:HV} (h:innL p cs) (hv:v.inn p):(Ac m ks cs k v).inn p:=by
 unfold Ac
 split
 ·simp only [oV];exact h.set _ hv
 ·simp only [oV,x9,ay,Gq,and_true];exact ⟨h,hv⟩
theorem zh {op:HOp HV} (hv:innL p op.vals) (hD:∀x∈aN op.vals,x∈D) (hl:innL p op.lits) (hL:∀id,(L id).inn p):Shape L p D op:=by
 cases op
 case mv nz v =>
  simp only [HOp.vals,ay] at hv
  cases nz with
  | zero=>exact .pure (fun _=>rfl) rfl hv.1
  | succ k=>cases v<;>first|exact .mk (mk:=fun fr=>.ref fr [] (k+1) 0 0) (us0:=[]) (T:=.osl (k+1) 0 []) (q:=True) (fun _=>rfl) (.inl ⟨_,_,rfl⟩) (by simp) (by simp) (fun _=>rfl) (by simp)|exact .pure (fun _=>rfl) rfl hv.1
 case pick c a b =>
  simp only [HOp.vals,ay] at hv
  cases c<;>first|exact .dead fun _=>rfl|skip
  rename_i t
  refine .pure (fun _=>rfl) ?_ ?_<;>simp only [ae]<;>split<;>first|rfl|exact lG|(split<;>first|exact hv.2.1|exact hv.2.2.1)
 case bin op x y=>exact .pure (fun _=>rfl) rfl IA
 case beq ne x y=>refine .pure (fun _=>rfl) ?_ ?_<;>simp only [ae]<;>split<;>first|rfl|exact lG|exact aV
 case aeq ne n x y=>refine .pure (fun _=>rfl) ?_ ?_<;>simp only [ae]<;>split<;>first|rfl|exact lG|exact aV
 case un op x=>refine .pure (fun _=>rfl) ?_ ?_<;>simp only [ae]<;>split<;>first|rfl|exact lG|exact aV|exact jU
 case conv k x=>refine .pure (fun _=>rfl) ?_ ?_<;>simp only [ae]<;>split<;>first|rfl|exact aV|exact jU
 case newv sz x =>
  simp only [HOp.vals,ay,aN,List.append_nil] at hv hD
  obtain ⟨a1,a2,a3⟩:=zy (D:=D) (tK hv.1) (fun x hx=>hD x (ng hx)) hL
  exact .mk (mk:=fun fr=>.pref fr [] 0) (fun _=>rfl) (.inr (.inl rfl)) (by simpa using a1) a2 (fun h=>by cases h) a3
 case newz zs=>exact .mk (mk:=fun fr=>.pref fr [] 0) (us0:=[]) (T:=.optr zs) (q:=True) (fun _=>rfl) (.inr (.inl rfl)) (by simpa [HOp.lits] using hl) (by simp) (fun _=>rfl) (by simp)
 case bld zs ps =>
  refine .pure (fun _=>rfl) rfl ?_
  simp only [ae,nZ]
  exact F6 hl fun q hq=>hv q.2.2 (List.mem_map_of_mem hq)
 case bsl sz n xs =>
  obtain ⟨a1,a2,a3⟩:=zy (D:=D) (JS (p:=p) (l:=xs) hv) (fun x hx=>hD x (wF hx)) hL
  exact .mk (mk:=fun fr=>.ref fr [] sz 0 n) (fun _=>rfl) (.inl ⟨_,_,rfl⟩) (by simpa using a1) a2 (fun h=>by cases h) a3
 case load a sz x =>
  simp only [HOp.vals,ay] at hv
  cases x<;>first|exact .dead fun _=>rfl|skip
  ·have h1:=hv.1
   simp only [yF] at h1
   cases a
   ·exact .pure (fun _=>rfl) rfl (h1.getD _)
   ·exact .pure (fun _=>rfl) rfl (by simp only [ae];simpa using h1.win _ _)
  ·rename_i id q off
   have h1:=hv.1
   simp only [vI] at h1
   have h2:=zl (jX (hL id) q)
   cases a
   ·exact .pure (fun _=>rfl) rfl (Gl h1 (h2.getD _))
   ·exact .pure (fun _=>rfl) rfl (by simp only [ae];simpa using h2.win _ _)
 case store fl sz x y =>
  simp only [HOp.vals,ay,aN,List.append_nil,zl001] at hv hD
  cases x<;>first|exact .dead fun _=>rfl|skip
  rename_i id q off
  obtain ⟨a1,a2,a3⟩:=zy (D:=D) (tK hv.2.1) (fun x hx=>hD x (.inr (ng hx))) hL
  have ht:=uU hL a2 id
  refine ⟨(ae L 0 (.store fl sz (.pref id q off) y)).2.1,?_,(fun h=>by cases h),?_,.inl ⟨_,_,?_,fun _=>rfl⟩⟩
  ·intro u hu
   simp only [ae,zl001,zl019] at hu
   rcases hu with (hu|hu)|rfl
   ·exact a2 u hu
   ·cases fl<;>simp at hu
    subst hu;trivial
   ·exact ⟨hD id (.inl (by simp [HV.deep])),vP (Eu (jX ht q) (rQ (zl (jX ht q)) a1 off)) ht q⟩
  ·intro hk u hu
   simp only [HOp.killer,Bool.not_eq_false'] at hk
   subst hk
   simp only [ae,zl001,zl019,if_true,yP,or_false] at hu
   rcases hu with hu|rfl
   ·exact a3 u hu
   ·exact ⟨_,_,rfl⟩
  ·exact aV
 case nilck x =>
  simp only [HOp.vals,ay] at hv
  cases x<;>first|exact .dead fun _=>rfl|exact .pure (fun _=>rfl) rfl hv.1
 case mkfn f xs=>exact .pure (fun _=>rfl) rfl (by simp only [ae,wW];exact hv)
 case mksl sz bytes z l =>
  cases l<;>first|exact .dead fun _=>rfl|skip
  rename_i k n
  cases k<;>first|exact .dead fun _=>rfl|skip
  refine .mk (mk:=fun fr=>.ref fr [] sz 0 n.toNat) (us0:=[]) (fun _=>rfl) (.inl ⟨_,_,rfl⟩) ?_ (by simp) (fun _=>rfl) (by simp)
  simp only [sH]
  intro v hv'
  obtain ⟨l,hl',hv'⟩:=List.mem_flatten.1 hv'
  rw [List.mem_replicate] at hl'
  rw [hl'.2] at hv'
  exact hl v hv'
 case slc sz x lo hi =>
  simp only [HOp.vals,ay] at hv
  refine .pure (fun _=>rfl) ?_ ?_
  ·simp only [ae]
   repeat' split
   all_goals rfl
  ·simp only [ae]
   split
   ·split
    ·split
     ·simp only [LM];exact innL.win (by simpa using hv.1) _ _
     ·exact aV
    ·split
     ·simpa using hv.1
     ·exact aV
    ·exact aV
   ·exact aV
 case faddr d x =>
  simp only [HOp.vals,ay] at hv
  cases x<;>first|exact .dead fun _=>rfl|exact .pure (fun _=>rfl) rfl (by simpa [ae] using hv.1)
 case fld a sz off x =>
  simp only [HOp.vals,ay] at hv
  cases x<;>first|exact .dead fun _=>rfl|skip
  have h1:=hv.1
  simp only [nZ] at h1
  cases a
  ·exact .pure (fun _=>rfl) rfl (h1.getD _)
  ·exact .pure (fun _=>rfl) rfl (by simp only [ae];simpa using h1.win _ _)
 case iaddr sz x i =>
  simp only [HOp.vals,ay] at hv
  cases i<;>first|exact .dead fun _=>rfl|skip
  cases x<;>first|exact .dead fun _=>rfl|exact .pure (fun _=>rfl) rfl (by simpa [ae] using hv.1)
 case ext x i =>
  simp only [HOp.vals,ay] at hv
  cases x<;>first|exact .dead fun _=>rfl|skip
  have h1:=hv.1
  simp only [sJ] at h1
  exact .pure (fun _=>rfl) rfl (h1.getD _)
 case len x=>cases x<;>first|exact .dead fun _=>rfl|exact .pure (fun _=>rfl) rfl jU
 case app fl sz bytes x y =>
  simp only [HOp.vals,ay,aN,List.append_nil,zl001] at hv hD
  obtain ⟨a1,a2,a3⟩:=Jm (D:=D) (fl:=fl) (sz:=sz) hv.2.1 (fun x hx=>hD x (.inr hx)) hL
  cases x<;>first|exact .dead fun _=>rfl|skip
  ·exact .mk (mk:=fun fr=>.ref fr [] sz 0 (aU L fl sz y).1) (fun _=>rfl) (.inl ⟨_,_,rfl⟩) (by simpa using a1) a2 (fun h=>by cases h) a3
  ·rename_i id q sz' off n
   have ht:=uU hL a2 id
   have hn:=jX ht q
   simp only [Shape]
   generalize htt:Lk.upd L (aU L fl sz y).2.2.1 id=t at ht hn
   generalize hnn:ah t q=nd at hn
   have dd:(∀fr,ae L fr (.app fl sz bytes (.ref id q sz' off n) y)=(.dead,[],False))->Shape L p D (.app fl sz bytes (.ref id q sz' off n) y):=fun h=>.dead h
   cases nd with
   | osl s m cs =>
    simp only [sH] at hn
    refine Shape.mk (mk:=fun fr=>.ref fr [] sz 0 (n+(aU L fl sz y).1)) (us0:=(aU L fl sz y).2.2.1++[.put id (cu .dead t q)]) (T:=.osl sz (n+(aU L fl sz y).1) (win cs off (n*sz)++(aU L fl sz y).2.1))
     (q:=(aU L fl sz y).2.2.2/\(n+(aU L fl sz y).1)*bytes<=140737488355328/\n+(aU L fl sz y).1<=maxLen/\sz'=sz/\off+n*sz<=cs.length) (fun fr=>?_) (.inl ⟨_,_,rfl⟩) ?_ ?_ (fun h=>by cases h) ?_
    ·simp only [ae,htt,hnn,vY,List.cons_append,List.nil_append]
    ·simp only [sH,x9];exact ⟨hn.win _ _,a1⟩
    ·intro u hu
     simp only [zl001,zl019] at hu
     rcases hu with hu|rfl
     ·exact a2 u hu
     ·exact ⟨hD id (.inl (by simp [HV.deep])),vP aV ht q⟩
    ·intro u hu
     simp only [zl001,zl019] at hu
     rcases hu with hu|rfl
     ·exact a3 u hu
     ·exact ⟨_,_,rfl⟩
   | _=>exact dd fun fr=>by simp only [ae,htt,hnn]
 case mm mx x y=>refine .pure (fun _=>rfl) ?_ ?_<;>simp only [ae]<;>split<;>first|rfl|exact jU|exact aV
 case cpy x y =>
  simp only [HOp.vals,ay,aN,List.append_nil,zl001] at hv hD
  obtain ⟨a1,_,_⟩:=Jm (D:=D) (fl:=true) (sz:=1) hv.2.1 (fun x hx=>hD x (.inr hx)) hL
  cases x<;>first|exact .dead fun _=>rfl|skip
  rename_i id q sz' off n
  refine ⟨(ae L 0 (.cpy (.ref id q sz' off n) y)).2.1,?_,(fun h=>by cases h),?_,.inl ⟨_,_,?_,fun _=>rfl⟩⟩
  ·intro u hu
   simp only [ae,zl019] at hu
   subst hu
   exact ⟨hD id (.inl (by simp [HV.deep])),vP (Eu (jX (hL id) q) (rQ (zl (jX (hL id) q)) (fun v hv=>a1 v (zN hv)) off)) (hL id) q⟩
  ·intro _ u hu
   simp only [ae,zl019] at hu
   subst hu
   exact ⟨_,_,rfl⟩
  ·exact jU
 case slz sz x =>
  cases x<;>first|exact .dead fun _=>rfl|exact .mk (mk:=fun fr=>.ref fr [] sz 0 0) (us0:=[]) (T:=.osl sz 0 []) (q:=True) (fun _=>rfl) (.inl ⟨_,_,rfl⟩) (by simp) (by simp) (fun _=>rfl) (by simp)
 case isn ne x=>refine .pure (fun _=>?_) ?_ ?_<;>simp only [ae]<;>cases x<;>first|rfl|exact lG|exact aV
 case mnil ne x =>
  cases x<;>first|exact .dead fun _=>rfl|exact .pure (fun _=>rfl) rfl lG|skip
  rename_i id q
  generalize hnn:ah (L id) q=nd
  cases nd with
  | omap m ks cs=>exact .pure (fun _=>by simp only [ae]) (by simp only [ae,hnn]) (by simp only [ae,hnn];exact lG)
  | _=>exact .dead (q:=False) fun fr=>by simp only [ae,hnn]
 case mkmap kk=>exact .mk (mk:=fun fr=>.mref fr []) (us0:=[]) (T:=.omap ⟨kk,none⟩ [] []) (q:=True) (fun _=>rfl) (.inr (.inr rfl)) (by simp) (by simp) (fun _=>rfl) (by simp)
 case mlook ok kk z x k =>
  simp only [HOp.vals,ay] at hv
  simp only [HOp.lits,ay] at hl
  refine .pure (fun _=>rfl) ?_ ?_
  ·simp only [ae]
   repeat' split
   all_goals rfl
  ·simp only [ae]
   split
   ·exact oq hl.1
   ·rename_i m ks cs
    have h1:=hv.1
    simp only [yX] at h1
    split
    ·exact oq (h1.getD _)
    ·exact oq hl.1
   ·rename_i id q
    have h1:=hv.1
    simp only [vN] at h1
    have h2:=jX (hL id) q
    split
    ·rename_i m ks cs hnn
     rw [hnn] at h2
     simp only [oV] at h2
     split
     ·exact oq (Gl h1 (h2.getD _))
     ·exact oq hl.1
    ·exact aV
   ·exact aV
 case mset kk x k v =>
  simp only [HOp.vals,ay,aN,List.append_nil,zl001] at hv hD
  cases x<;>first|exact .dead fun _=>rfl|skip
  rename_i id q
  obtain ⟨a1,a2,a3⟩:=aS (D:=D) hv.2.2.1 (fun x hx=>hD x (.inr (.inr hx))) hL
  have ht:=uU hL a2 id
  generalize hnn:ah (Lk.upd L (takeC L v).2.1 id) q=nd
  cases nd with
  | omap m ks cs =>
   have hcs:=jX ht q
   rw [hnn] at hcs
   simp only [oV] at hcs
   refine ⟨(takeC L v).2.1++[.kill id q.length]++[.put id (cu (Ac m ks cs k (takeC L v).1) (Lk.upd L (takeC L v).2.1 id) q)],?_,(fun h=>by cases h),(fun h=>by cases h),.inl ⟨.dead,(takeC L v).2.2/\m.kind=kk/\bG kk k=true,aV,fun fr=>by simp only [ae,hnn]⟩⟩
   intro u hu
   simp only [zl001,zl019] at hu
   rcases hu with (hu|rfl)|rfl
   ·exact a2 u hu
   ·trivial
   ·exact ⟨hD id (.inl (by simp [HV.deep])),vP (MH hcs a1) ht q⟩
  | _=>exact .dead (q:=False) fun fr=>by simp only [ae,hnn]
 case mlen x =>
  cases x<;>first|exact .dead fun _=>rfl|exact .pure (fun _=>rfl) rfl jU|skip
  rename_i id q
  generalize hnn:ah (L id) q=nd
  cases nd with
  | omap m ks cs=>exact .pure (fun _=>by simp only [ae]) (by simp only [ae,hnn]) (by simp only [ae,hnn];exact jU)
  | _=>exact .dead (q:=False) fun fr=>by simp only [ae,hnn]
 case mrng=>exact .dead fun _=>rfl
 case mnxt=>exact .dead fun _=>rfl
 case ment=>exact .dead fun _=>rfl
 case tostr x =>
  cases x<;>first|exact .dead fun _=>rfl|exact .pure (fun _=>rfl) rfl N9|exact .pure (fun _=>rfl) BP Di|skip
  rename_i id q sz off n
  generalize hnn:ah (L id) q=nd
  cases nd with
  | osl s m cs=>exact .pure (fun _=>by simp only [ae]) (by simp only [ae,hnn];exact BP) (by simp only [ae,hnn];exact Di)
  | _=>exact .dead (q:=False) fun fr=>by simp only [ae,hnn]
 case call=>exact .dead fun _=>rfl
 case callv=>exact .dead fun _=>rfl
 case bi=>exact .dead fun _=>rfl
 case bad=>exact .dead fun _=>rfl
theorem yT {op:HOp HV} (h:∀x∈aN op.vals,L x=L' x) (fr:Nat):ae L fr op=ae L' fr op:=by
 cases op<;>first|rfl|skip
 case newv sz x =>
  simp only [HOp.vals,aN,List.append_nil] at h
  simp only [ae,rH (L:=L) (L':=L') (l:=cellsOf x) fun x hx=>h x (ng hx)]
 case bsl sz n xs=>simp only [ae,rH (L:=L) (L':=L') (l:=xs.flatMap cellsOf) fun x hx=>h x (wF hx)]
 case load a sz x =>
  cases x<;>first|rfl|skip
  rename_i id q off
  have:=h id (by simp [HOp.vals,aN,HV.deep])
  simp only [ae,this]
 case store fl sz x y =>
  cases x<;>first|rfl|skip
  rename_i id q off
  simp only [HOp.vals,aN,List.append_nil,zl001] at h
  have e1:=rH (L:=L) (L':=L') (l:=cellsOf y) fun x hx=>h x (.inr (ng hx))
  have e2:Lk.upd L (dO L' (cellsOf y)).2.1 id=Lk.upd L' (dO L' (cellsOf y)).2.1 id:=uP (.inr (h id (.inl (by simp [HV.deep]))))
  simp only [ae,e1,e2]
 case app fl sz bytes x y =>
  simp only [HOp.vals,aN,List.append_nil,zl001] at h
  have e1:=Ag (L:=L) (L':=L') (fl:=fl) (sz:=sz) (v:=y) fun x hx=>h x (.inr hx)
  cases x<;>(try (simp only [ae,e1];done))<;>try rfl
  rename_i id q sz' off n
  have e2:Lk.upd L (aU L' fl sz y).2.2.1 id=Lk.upd L' (aU L' fl sz y).2.2.1 id:=uP (.inr (h id (.inl (by simp [HV.deep]))))
  simp only [ae,e1,e2]
 case cpy x y =>
  simp only [HOp.vals,aN,List.append_nil,zl001] at h
  have e1:=Ag (L:=L) (L':=L') (fl:=true) (sz:=1) (v:=y) fun x hx=>h x (.inr hx)
  cases x<;>(try (simp only [ae,e1];done))<;>try rfl
  rename_i id q sz' off n
  have e2:=h id (.inl (by simp [HV.deep]))
  simp only [ae,e1,e2]
 case mnil ne x =>
  cases x<;>first|rfl|skip
  rename_i id q
  have:=h id (by simp [HOp.vals,aN,HV.deep])
  simp only [ae,this]
 case mlook ok kk z x k =>
  cases x<;>first|rfl|skip
  rename_i id q
  have:=h id (by simp [HOp.vals,aN,HV.deep])
  simp only [ae,this]
 case mset kk x k v =>
  cases x<;>first|rfl|skip
  rename_i id q
  simp only [HOp.vals,aN,List.append_nil,zl001] at h
  have e1:=bC (L:=L) (L':=L') (v:=v) fun x hx=>h x (.inr (.inr hx))
  have e2:Lk.upd L (takeC L' v).2.1 id=Lk.upd L' (takeC L' v).2.1 id:=uP (.inr (h id (.inl (by simp [HV.deep]))))
  simp only [ae,e1,e2]
 case mlen x =>
  cases x<;>first|rfl|skip
  rename_i id q
  have:=h id (by simp [HOp.vals,aN,HV.deep])
  simp only [ae,this]
 case tostr x =>
  cases x<;>first|rfl|skip
  rename_i id q sz off n
  have:=h id (by simp [HOp.vals,aN,HV.deep])
  simp only [ae,this]
theorem IM {op:HOp HV} (h:op.touch=false) (fr:Nat):ae L fr op=ae L' fr op:=by
 cases op<;>first|rfl|cases h
end
mutual
def HV.rn (g:Nat->Nat):HV->HV
 | .ref i p sz o n=>.ref (g i) p sz o n
 | .pref i p o=>.pref (g i) p o
 | .mref i p=>.mref (g i) p
 | .agg cs=>.agg (Po g cs)
 | .tup cs=>.tup (Po g cs)
 | .fn f cs=>.fn f (Po g cs)
 | v=>v
def Po (g:Nat->Nat):List HV->List HV
 | []=>[]
 | v::r=>v.rn g::Po g r
end
def Ep (g:Nat->Nat):dJ->dJ
 | .put id t=>.put (g id) t
 | .kill id n=>.kill (g id) n
mutual
theorem HV.rn_id (g:Nat->Nat):∀v:HV,v.inn (fun i=>g i=i)->v.rn g=v
 | .ref i p sz o n,h=>by simp only [DT] at h;simp only [HV.rn,h]
 | .pref i p o,h=>by simp only [vI] at h;simp only [HV.rn,h]
 | .mref i p,h=>by simp only [vN] at h;simp only [HV.rn,h]
 | .agg cs,h=>by simp only [nZ] at h;simp only [HV.rn,Dz g cs h]
 | .tup cs,h=>by simp only [sJ] at h;simp only [HV.rn,Dz g cs h]
 | .fn f cs,h=>by simp only [wW] at h;simp only [HV.rn,Dz g cs h]
 | .int ..,_=>rfl
 | .bool _,_=>rfl
 | .str _,_=>rfl
 | .nils,_=>rfl
 | .nilp,_=>rfl
 | .nilf,_=>rfl
 | .sl ..,_=>rfl
 | .osl ..,_=>rfl
 | .ptr ..,_=>rfl
 | .optr _,_=>rfl
 | .nilm,_=>rfl
 | .rmap ..,_=>rfl
 | .omap ..,_=>rfl
 | .oitr ..,_=>rfl
 | .dead,_=>rfl
theorem Dz (g:Nat->Nat):∀l:List HV,innL (fun i=>g i=i) l->Po g l=l
 | [],_=>rfl
 | v::r,h=>by simp only [ay] at h;simp only [Po,HV.rn_id g v h.1,Dz g r h.2]
end
def Rn (fr fr':Nat) (g:Nat->Nat) (x y:HV×List dJ×Nat):Prop :=
 fr<=x.2.2/\y.2.2+fr=x.2.2+fr'/\((∀k,fr<=k->k<x.2.2->g k=k - fr+fr')->y.1=x.1.rn g/\y.2.1=x.2.1.map (Ep g)) /\
  x.1.inn (fun i=>fr<=i/\i<x.2.2)/\∀u∈x.2.1,∃id t,u=.put id t/\fr<=id/\id<x.2.2/\t.deep=[]
def P6 (fr fr':Nat) (g:Nat->Nat) (x y:List HV×List dJ×Nat):Prop :=
 fr<=x.2.2/\y.2.2+fr=x.2.2+fr'/\((∀k,fr<=k->k<x.2.2->g k=k - fr+fr')->y.1=Po g x.1/\y.2.1=x.2.1.map (Ep g)) /\
  innL (fun i=>fr<=i/\i<x.2.2) x.1/\∀u∈x.2.1,∃id t,u=.put id t/\fr<=id/\id<x.2.2/\t.deep=[]
theorem HV.inn_mono {p q:Nat->Prop} {v:HV} (h:v.inn p) (hpq:∀x,p x->q x):v.inn q:=fun x hx=>hpq x (h x hx)
theorem innL.mono {p q:Nat->Prop} {v:List HV} (h:innL p v) (hpq:∀x,p x->q x):innL q v:=fun x hx=>HV.inn_mono (h x hx) hpq
mutual
theorem oM (g:Nat->Nat):∀ (v:HV) (fr fr':Nat),v.deep=[]->Rn fr fr' g (unpack fr v) (unpack fr' v)
 | .osl sz n cs,fr,fr',hd=>by
  refine ⟨by simp [unpack],by simp [unpack];omega,fun h=>?_,by simp [unpack],by intro u hu;simp only [unpack,zl019] at hu;exact ⟨_,_,hu,aP _,vV _,hd⟩⟩
  have:=h fr (aP _) (by simp [unpack])
  simp [unpack,HV.rn,Ep,this]
 | .optr cs,fr,fr',hd=>by
  refine ⟨by simp [unpack],by simp [unpack];omega,fun h=>?_,by simp [unpack],by intro u hu;simp only [unpack,zl019] at hu;exact ⟨_,_,hu,aP _,vV _,hd⟩⟩
  have:=h fr (aP _) (by simp [unpack])
  simp [unpack,HV.rn,Ep,this]
 | .omap m ks cs,fr,fr',hd=>by
  refine ⟨by simp [unpack],by simp [unpack];omega,fun h=>?_,by simp [unpack],by intro u hu;simp only [unpack,zl019] at hu;exact ⟨_,_,hu,aP _,vV _,hd⟩⟩
  have:=h fr (aP _) (by simp [unpack])
  simp [unpack,HV.rn,Ep,this]
 | .oitr b s l c,fr,fr',hd=>by
  refine ⟨by simp [unpack],by simp [unpack];omega,fun h=>?_,by simp [unpack],by intro u hu;simp only [unpack,zl019] at hu;exact ⟨_,_,hu,aP _,vV _,hd⟩⟩
  have:=h fr (aP _) (by simp [unpack])
  simp [unpack,HV.rn,Ep,this]
 | .agg cs,fr,fr',hd=>by
  obtain ⟨h1,h2,h3,h4,h5⟩:=pK g cs fr fr' hd
  exact ⟨h1,h2,fun h=>by have:=h3 h;simp only [unpack,HV.rn];exact ⟨by rw [this.1],this.2⟩,by simpa [unpack] using h4,h5⟩
 | .tup cs,fr,fr',hd=>by
  obtain ⟨h1,h2,h3,h4,h5⟩:=pK g cs fr fr' hd
  exact ⟨h1,h2,fun h=>by have:=h3 h;simp only [unpack,HV.rn];exact ⟨by rw [this.1],this.2⟩,by simpa [unpack] using h4,h5⟩
 | .fn f cs,fr,fr',hd=>by
  obtain ⟨h1,h2,h3,h4,h5⟩:=pK g cs fr fr' hd
  exact ⟨h1,h2,fun h=>by have:=h3 h;simp only [unpack,HV.rn];exact ⟨by rw [this.1],this.2⟩,by simpa [unpack] using h4,h5⟩
 | .ref i p sz o n,fr,fr',hd=>by cases hd
 | .pref i p o,fr,fr',hd=>by cases hd
 | .mref i p,fr,fr',hd=>by cases hd
 | .nilm,fr,fr',hd=>⟨aP _,jI _ _,fun _=>⟨rfl,rfl⟩,by simp [unpack],by simp [unpack]⟩
 | .int ..,fr,fr',hd=>⟨aP _,jI _ _,fun _=>⟨rfl,rfl⟩,by simp [unpack],by simp [unpack]⟩
 | .bool _,fr,fr',hd=>⟨aP _,jI _ _,fun _=>⟨rfl,rfl⟩,by simp [unpack],by simp [unpack]⟩
 | .str _,fr,fr',hd=>⟨aP _,jI _ _,fun _=>⟨rfl,rfl⟩,by simp [unpack],by simp [unpack]⟩
 | .nils,fr,fr',hd=>⟨aP _,jI _ _,fun _=>⟨rfl,rfl⟩,by simp [unpack],by simp [unpack]⟩
 | .nilp,fr,fr',hd=>⟨aP _,jI _ _,fun _=>⟨rfl,rfl⟩,by simp [unpack],by simp [unpack]⟩
 | .nilf,fr,fr',hd=>⟨aP _,jI _ _,fun _=>⟨rfl,rfl⟩,by simp [unpack],by simp [unpack]⟩
 | .dead,fr,fr',hd=>⟨aP _,jI _ _,fun _=>⟨rfl,rfl⟩,by simp [unpack],by simp [unpack]⟩
 | .sl n cs,fr,fr',hd=>⟨aP _,jI _ _,fun _=>⟨rfl,rfl⟩,(by intro x hx;simp only [unpack] at hx;rw [hd] at hx;cases hx),(by simp [unpack])⟩
 | .ptr cs o,fr,fr',hd=>⟨aP _,jI _ _,fun _=>⟨rfl,rfl⟩,(by intro x hx;simp only [unpack] at hx;rw [hd] at hx;cases hx),(by simp [unpack])⟩
 | .rmap m ks cs,fr,fr',hd=>⟨aP _,jI _ _,fun _=>⟨rfl,rfl⟩,(by intro x hx;simp only [unpack] at hx;rw [hd] at hx;cases hx),(by simp [unpack])⟩
theorem pK (g:Nat->Nat):∀ (l:List HV) (fr fr':Nat),aN l=[]->P6 fr fr' g (aH fr l) (aH fr' l)
 | [],fr,fr',hd=>⟨aP _,jI _ _,fun _=>⟨rfl,rfl⟩,by simp [aH],by simp [aH]⟩
 | v::r,fr,fr',hd=>by
  simp only [aN,List.append_eq_nil_iff] at hd
  obtain ⟨a1,a2,a3,a4,a5⟩:=oM g v fr fr' hd.1
  obtain ⟨b1,b2,b3,b4,b5⟩:=pK g r (unpack fr v).2.2 (unpack fr' v).2.2 hd.2
  refine ⟨by simp only [aH];omega,by simp only [aH];omega,fun h=>?_,?_,?_⟩
  ·simp only [aH] at h ⊢
   obtain ⟨c1,c2⟩:=a3 fun k h1 h2=>h k h1 (by omega)
   obtain ⟨c3,c4⟩:=b3 fun k h1 h2=>by rw [h k (by omega) h2];omega
   simp only [Po,c1,c2,c3,c4,List.map_append,and_self]
  ·simp only [aH,ay]
   exact ⟨HV.inn_mono a4 fun x hx=>by omega,b4.mono fun x hx=>by omega⟩
  ·intro u hu
   simp only [aH,zl001] at hu ⊢
   rcases hu with hu|hu
   ·obtain ⟨id,t,e,h1,h2,h3⟩:=a5 u hu
    exact ⟨id,t,e,h1,by omega,h3⟩
   ·obtain ⟨id,t,e,h1,h2,h3⟩:=b5 u hu
    exact ⟨id,t,e,by omega,h2,h3⟩
end
structure CF where
 ht:o9
 hm:o9
structure DS where
 rel:FuncId->List HV->HV->Prop
 own:FuncId->Bool
def DS.of (D:FuncId->List HV->HV->Prop):DS:=⟨D,fun _=>false⟩
def ku (C:CF) (D:DS) (M:Lk) (fr:Nat):HOp HV->Prop
 | .call f xs=>if D.own f=true then (ak M xs).2.2/\C.hm f (ak M xs).1 (D.rel f (ak M xs).1)/\∀r,D.rel f (ak M xs).1 r->r.deep=[]->(unpack fr r).2.2<=fr+stride
  else C.ht f (bI bn M xs) (D.rel f (bI bn M xs))/\∀r,D.rel f (bI bn M xs) r->r.deep=[]->(aI xs || r.noRd)=true/\(unpack fr r).2.2<=fr+stride
 | .callv (.fn f cap) xs=>C.ht f (bI bn M (xs++cap)) (D.rel f (bI bn M (xs++cap)))/\∀r,D.rel f (bI bn M (xs++cap)) r->r.deep=[]->(aI (xs++cap) || r.noRd)=true/\(unpack fr r).2.2<=fr+stride
 | op=>(ae M fr op).2.2
def lM (D:DS) (M:Lk) (fr:Nat) (e:HV×List dJ):HOp HV->Prop
 | .call f xs=>if D.own f=true then ∃r,D.rel f (ak M xs).1 r/\r.deep=[]/\e=((unpack fr r).1,(ak M xs).2.1++(unpack fr r).2.1)
  else ∃r,D.rel f (bI bn M xs) r/\r.deep=[]/\e=((unpack fr r).1,(unpack fr r).2.1)
 | .callv (.fn f cap) xs=>∃r,D.rel f (bI bn M (xs++cap)) r/\r.deep=[]/\e=((unpack fr r).1,(unpack fr r).2.1)
 | op=>e=((ae M fr op).1,(ae M fr op).2.1)
def gd (all:List HOper) (o:HOper) (S:Lk):Option Bool :=
 match o.guard with
 | none=>some true
 | some (j,want)=>match ((all[j]?).bind (·.dst)).map S with
  | some (.bool b)=>some (b==want)
  | some (.tup [])=>some false
  | _=>none
def dU (C:CF) (D:DS) (all:List HOper) (fr:Nat) (o:HOper) (S M:Lk):Prop :=
 match gd all o S with
 | some true=>ku C D M fr (o.op.map (bT S))
 | some false=>True
 | none=>False
def fZ (D:DS) (all:List HOper) (fr:Nat) (o:HOper) (S M:Lk) (e:HV×List dJ):Prop :=
 match gd all o S with
 | some true=>lM D M fr e (o.op.map (bT S))
 | some false=>e=(.tup [],[])
 | none=>False
def jY (o:HOper) (e:HV×List dJ) (S:Lk):Lk:=fun t=>if o.dst=some t then e.1 else qF S e.2 t
def sV (e:HV×List dJ) (M:Lk):Lk:=Lk.upd M e.2
def iD (o:HOper) (S:Lk):List Nat:=aN (o.op.map (bT S)).vals
def slotsOf:List HX->List Nat
 | []=>[]
 | .t i::r=>i::slotsOf r
 | .c _::r=>slotsOf r
def looks (all:List HOper) (o:HOper):List Nat :=
 slotsOf o.op.vals++(match o.guard with|none=>[]|some (j,_)=>((all[j]?).bind (·.dst)).toList)
theorem JF {α β:Type} {g g':α->β} {o:HOp α} (h:∀x∈o.vals,g x=g' x):o.map g=o.map g':=by
 cases o<;>simp_all [HOp.vals,HOp.map]
 case bld zs ps =>
  intro a b c hx
  exact h c a b hx
 case slc sz x lo hi =>
  refine ⟨?_,?_⟩
  ·cases lo<;>simp_all
  ·cases hi<;>simp_all
theorem J7 {S S':Lk} {l:List HX} (h:∀t∈slotsOf l,S t=S' t):∀x∈l,bT S x=bT S' x:=by
 induction l with
 | nil=>simp
 | cons y r ih =>
  intro x hx
  cases y with
  | t i =>
   simp only [slotsOf,zl008] at h
   rcases zl008.1 hx with rfl|hx
   ·exact h i (.inl rfl)
   ·exact ih (fun t ht=>h t (.inr ht)) x hx
  | c v =>
   rcases zl008.1 hx with rfl|hx
   ·rfl
   ·exact ih h x hx
theorem jo {all:List HOper} {o:HOper} {S S':Lk} (h:∀t∈looks all o,S t=S' t):o.op.map (bT S)=o.op.map (bT S') :=
 JF (J7 fun t ht=>h t (by simp [looks,ht]))
theorem vK {all:List HOper} {o:HOper} {S S':Lk} (h:∀t∈looks all o,S t=S' t):gd all o S=gd all o S':=by
 unfold gd
 cases hg:o.guard with
 | none=>rfl
 | some jw =>
  obtain ⟨j,want⟩:=jw
  simp only
  cases hd:(all[j]?).bind (·.dst) with
  | none=>rfl
  | some d =>
   simp only [iq]
   rw [h d (by simp [looks,hg,hd])]
mutual
theorem Ii {T:Nat->Bool} {L L':Lk}:∀v:HV,(∀x∈v.deep,L x=L' x)->v.thaw T L=v.thaw T L'
 | .ref i p sz o n,h=>by have:=h i (by simp [HV.deep]);simp only [HV.thaw,this]
 | .pref i p o,h=>by have:=h i (by simp [HV.deep]);simp only [HV.thaw,this]
 | .mref i p,h=>by have:=h i (by simp [HV.deep]);simp only [HV.thaw,this]
 | .agg cs,h=>by simp only [HV.thaw,iE cs h]
 | .tup cs,h=>by simp only [HV.thaw,iE cs h]
 | .fn f cs,h=>by simp only [HV.thaw,iE cs h]
 | .int ..,_=>rfl
 | .bool _,_=>rfl
 | .str _,_=>rfl
 | .nils,_=>rfl
 | .nilp,_=>rfl
 | .nilf,_=>rfl
 | .sl ..,_=>rfl
 | .osl ..,_=>rfl
 | .ptr ..,_=>rfl
 | .optr _,_=>rfl
 | .nilm,_=>rfl
 | .rmap ..,_=>rfl
 | .omap ..,_=>rfl
 | .oitr ..,_=>rfl
 | .dead,_=>rfl
theorem iE {T:Nat->Bool} {L L':Lk}:∀l:List HV,(∀x∈aN l,L x=L' x)->bI T L l=bI T L' l
 | [],_=>rfl
 | v::r,h=>by
  simp only [aN,zl001] at h
  simp only [bI,Ii v fun x hx=>h x (.inl hx),iE r fun x hx=>h x (.inr hx)]
end
theorem vC (a b:List HV):aN (a++b)=aN a++aN b:=by
 induction a with
 | nil=>rfl
 | cons v a ih=>simp [aN,ih]
mutual
theorem Nu {p:Nat->Prop} {D:List Nat}:∀ (L:Lk) (v:HV),v.inn p->(∀x∈v.deep,x∈D)->(∀id,(L id).inn p)->(takeD L v).1.inn p/\(∀u∈(takeD L v).2.1,Le D p u)
 | L,.agg cs,h,hD,hL=>by
  simp only [nZ] at h
  obtain ⟨a,b⟩:=mF L cs h hD hL
  exact ⟨by simpa [takeD] using a,b⟩
 | L,.tup cs,h,hD,hL=>by
  simp only [sJ] at h
  obtain ⟨a,b⟩:=mF L cs h hD hL
  exact ⟨by simpa [takeD] using a,b⟩
 | L,.fn f cs,h,hD,hL=>by
  simp only [wW] at h
  obtain ⟨a,b⟩:=mF L cs h hD hL
  exact ⟨by simpa [takeD] using a,b⟩
 | L,.dead,_,_,_=>by simp [takeD]
 | L,.int ..,h,hD,hL=>by unfold takeD;exact ⟨(aS h hD hL).1,(aS h hD hL).2.1⟩
 | L,.bool _,h,hD,hL=>by unfold takeD;exact ⟨(aS h hD hL).1,(aS h hD hL).2.1⟩
 | L,.str _,h,hD,hL=>by unfold takeD;exact ⟨(aS h hD hL).1,(aS h hD hL).2.1⟩
 | L,.nils,h,hD,hL=>by unfold takeD;exact ⟨(aS h hD hL).1,(aS h hD hL).2.1⟩
 | L,.nilp,h,hD,hL=>by unfold takeD;exact ⟨(aS h hD hL).1,(aS h hD hL).2.1⟩
 | L,.nilf,h,hD,hL=>by unfold takeD;exact ⟨(aS h hD hL).1,(aS h hD hL).2.1⟩
 | L,.sl ..,h,hD,hL=>by unfold takeD;exact ⟨(aS h hD hL).1,(aS h hD hL).2.1⟩
 | L,.osl ..,h,hD,hL=>by unfold takeD;exact ⟨(aS h hD hL).1,(aS h hD hL).2.1⟩
 | L,.ptr ..,h,hD,hL=>by unfold takeD;exact ⟨(aS h hD hL).1,(aS h hD hL).2.1⟩
 | L,.optr _,h,hD,hL=>by unfold takeD;exact ⟨(aS h hD hL).1,(aS h hD hL).2.1⟩
 | L,.nilm,h,hD,hL=>by unfold takeD;exact ⟨(aS h hD hL).1,(aS h hD hL).2.1⟩
 | L,.rmap ..,h,hD,hL=>by unfold takeD;exact ⟨(aS h hD hL).1,(aS h hD hL).2.1⟩
 | L,.omap ..,h,hD,hL=>by unfold takeD;exact ⟨(aS h hD hL).1,(aS h hD hL).2.1⟩
 | L,.oitr ..,h,hD,hL=>by unfold takeD;exact ⟨(aS h hD hL).1,(aS h hD hL).2.1⟩
 | L,.mref ..,h,hD,hL=>by unfold takeD;exact ⟨(aS h hD hL).1,(aS h hD hL).2.1⟩
 | L,.ref ..,h,hD,hL=>by unfold takeD;exact ⟨(aS h hD hL).1,(aS h hD hL).2.1⟩
 | L,.pref ..,h,hD,hL=>by unfold takeD;exact ⟨(aS h hD hL).1,(aS h hD hL).2.1⟩
theorem mF {p:Nat->Prop} {D:List Nat}:∀ (L:Lk) (l:List HV),innL p l->(∀x∈aN l,x∈D)->(∀id,(L id).inn p)->innL p (ak L l).1/\(∀u∈(ak L l).2.1,Le D p u)
 | L,[],_,_,_=>by simp [ak]
 | L,v::r,h,hD,hL=>by
  simp only [ay] at h
  simp only [aN,zl001] at hD
  obtain ⟨a1,a2⟩:=Nu (D:=D) L v h.1 (fun x hx=>hD x (.inl hx)) hL
  obtain ⟨b1,b2⟩:=mF (D:=D) (Lk.upd L (takeD L v).2.1) r h.2 (fun x hx=>hD x (.inr hx)) (uU hL a2)
  simp only [ak,ay,zl001]
  exact ⟨⟨a1,b1⟩,fun u hu=>hu.elim (a2 u) (b2 u)⟩
end
mutual
theorem FQ:∀ (v:HV) {L L':Lk},(∀x∈v.deep,L x=L' x)->takeD L v=takeD L' v
 | .agg cs,L,L',h=>by unfold takeD;rw [jq cs h]
 | .tup cs,L,L',h=>by unfold takeD;rw [jq cs h]
 | .fn f cs,L,L',h=>by unfold takeD;rw [jq cs h]
 | .dead,_,_,_=>by simp [takeD]
 | .int ..,L,L',h=>by unfold takeD;exact bC h
 | .bool _,L,L',h=>by unfold takeD;exact bC h
 | .str _,L,L',h=>by unfold takeD;exact bC h
 | .nils,L,L',h=>by unfold takeD;exact bC h
 | .nilp,L,L',h=>by unfold takeD;exact bC h
 | .nilf,L,L',h=>by unfold takeD;exact bC h
 | .sl ..,L,L',h=>by unfold takeD;exact bC h
 | .osl ..,L,L',h=>by unfold takeD;exact bC h
 | .ptr ..,L,L',h=>by unfold takeD;exact bC h
 | .optr _,L,L',h=>by unfold takeD;exact bC h
 | .nilm,L,L',h=>by unfold takeD;exact bC h
 | .rmap ..,L,L',h=>by unfold takeD;exact bC h
 | .omap ..,L,L',h=>by unfold takeD;exact bC h
 | .oitr ..,L,L',h=>by unfold takeD;exact bC h
 | .mref ..,L,L',h=>by unfold takeD;exact bC h
 | .ref ..,L,L',h=>by unfold takeD;exact bC h
 | .pref ..,L,L',h=>by unfold takeD;exact bC h
theorem jq:∀ (l:List HV) {L L':Lk},(∀x∈aN l,L x=L' x)->ak L l=ak L' l
 | [],_,_,_=>rfl
 | v::r,L,L',h=>by
  simp only [aN,zl001] at h
  have e1:=FQ v (L:=L) (L':=L') fun x hx=>h x (.inl hx)
  simp only [ak,e1]
  rw [jq r (L:=Lk.upd L (takeD L' v).2.1) (L':=Lk.upd L' (takeD L' v).2.1) fun x hx=>uP (.inr (h x (.inr hx)))]
end
section
variable {C:CF} {D:DS} {all:List HOper} {M M' S S':Lk} {fr nx i:Nat}
theorem EP {op:HOp HV} (h:op.touch=false\/∀x∈aN op.vals,M x=M' x):ku C D M fr op=ku C D M' fr op:=by
 rcases h with h|h
 ·cases op<;>first|cases h;done|exact congrArg (·.2.2) (IM (L:=M) (L':=M') h fr)
 ·cases op
  case call f xs=>simp only [ku,iE (L:=M) (L':=M') xs h,jq xs h]
  case callv x xs =>
   simp only [HOp.vals,aN,zl001] at h
   cases x
   case fn f cap =>
    have:=iE (T:=bn) (L:=M) (L':=M') (xs++cap) fun x hx=>h x (by rw [vC,zl001] at hx;exact hx.symm)
    simp only [ku,this]
   all_goals rfl
  all_goals exact congrArg (·.2.2) (yT (L:=M) (L':=M') h fr)
theorem Gv {op:HOp HV} {e:HV×List dJ} (h:op.touch=false\/∀x∈aN op.vals,M x=M' x):lM D M fr e op=lM D M' fr e op:=by
 rcases h with h|h
 ·cases op<;>first|cases h;done|exact congrArg (fun q:HV×List dJ×Prop=>e=(q.1,q.2.1)) (IM (L:=M) (L':=M') h fr)
 ·cases op
  case call f xs=>simp only [lM,iE (L:=M) (L':=M') xs h,jq xs h]
  case callv x xs =>
   simp only [HOp.vals,aN,zl001] at h
   cases x
   case fn f cap =>
    have:=iE (T:=bn) (L:=M) (L':=M') (xs++cap) fun x hx=>h x (by rw [vC,zl001] at hx;exact hx.symm)
    simp only [lM,this]
   all_goals rfl
  all_goals exact congrArg (fun q:HV×List dJ×Prop=>e=(q.1,q.2.1)) (yT (L:=M) (L':=M') h fr)
theorem oC {o:HOper} (hS:∀t∈looks all o,S t=S' t) (hM:o.op.touch=false\/∀x∈iD o S,M x=M' x):dU C D all fr o S M=dU C D all fr o S' M':=by
 unfold dU
 rw [vK hS,jo hS]
 rw [iD,jo hS] at hM
 rw [EP (M:=M) (M':=M') (by rw [HOp.touch_map];exact hM)]
theorem pz {o:HOper} {e:HV×List dJ} (hS:∀t∈looks all o,S t=S' t) (hM:o.op.touch=false\/∀x∈iD o S,M x=M' x):fZ D all fr o S M e=fZ D all fr o S' M' e:=by
 unfold fZ
 rw [vK hS,jo hS]
 rw [iD,jo hS] at hM
 rw [Gv (M:=M) (M':=M') (by rw [HOp.touch_map];exact hM)]
def uT (nx i x:Nat):Prop:=nx+stride*i<=x/\x<nx+stride*(i+1)
def oJ (nx:Nat) (X:Nat->Prop) (x:Nat):Prop:=x<nx\/∃k,X k/\uT nx k x
structure Inv (nx:Nat) (X:Nat->Prop) (S M:Lk):Prop where
 slots:∀t,(S t).inn (oJ nx X)
 trees:∀id,(M id).inn (oJ nx X)
 alive:∀id,M id≠.dead->oJ nx X id
theorem I4 {i j x:Nat} (h1:uT nx i x) (h2:uT nx j x):i=j:=by
 unfold uT stride at *;omega
theorem nP {X:Nat->Prop} {x:Nat} (h:oJ nx X x) (hr:uT nx i x):X i:=by
 rcases h with h|⟨k,hk,h⟩
 ·unfold uT stride at hr;omega
 ·rw [I4 hr h];exact hk
theorem jD {X Y:Nat->Prop} (h:∀k,X k->Y k) {x:Nat} (hx:oJ nx X x):oJ nx Y x:=hx.imp id fun ⟨k,hk,hr⟩=>⟨k,h k hk,hr⟩
def lU (o:HOper):Bool:=(aN o.op.lits).isEmpty&&o.op.vals.all fun|.c v=>v.deep.isEmpty|_=>true
theorem vM {X:Nat->Prop} (hI:Inv nx X S M) {o:HOper} (hl:lU o=true):innL (oJ nx X) (o.op.map (bT S)).vals:=by
 rw [HOp.vals_map]
 intro v hv
 obtain ⟨x,hx,rfl⟩:=zl023.1 hv
 cases x with
 | t i=>exact hI.slots i
 | c v =>
  simp only [lU,aG,zl014] at hl
  have:=hl.2 _ hx
  simp only [qc] at this
  intro y hy
  simp only [bT,this] at hy
  cases hy
theorem MR {X:Nat->Prop} {o:HOper} (hl:lU o=true):innL (oJ nx X) (o.op.map (bT S)).lits:=by
 rw [HOp.lits_map,innL_iff]
 simp only [lU,aG,qc] at hl
 rw [hl.1]
 simp
theorem Oc {X:Nat->Prop} {op:HOp HV} {e:HV×List dJ} (hv:innL (oJ nx X) op.vals) (hl:innL (oJ nx X) op.lits) (hT:∀id,(M id).inn (oJ nx X)) (hs:ku C D M (nx+stride*i) op) (h:lM D M (nx+stride*i) e op) :
  e.1.inn (oJ nx fun k=>X k\/k=i)/\(∀u∈e.2,Ou (oJ nx fun k=>X k\/k=i) u)/\(∀x∈fP e.2,uT nx i x\/(op.wrtO D.own=true/\x∈aN op.vals))/\(op.killer=false->∀u∈e.2,∃id t,u=.put id t):=by
 have up:∀x,oJ nx X x->oJ nx (fun k=>X k\/k=i) x:=fun x hx=>jD (fun k hk=>.inl hk) hx
 have r0:uT nx i (nx+stride*i):=by unfold uT stride;omega
 have call:∀ (f:FuncId) (xs:List HV) (args:List HV),(C.ht f args (D.rel f args)/\∀r,D.rel f args r->r.deep=[]->(aI xs || r.noRd)=true/\(unpack (nx+stride*i) r).2.2<=nx+stride*i+stride)->(∃r,D.rel f args r/\r.deep=[]/\e=((unpack (nx+stride*i) r).1,(unpack (nx+stride*i) r).2.1)) ->
   e.1.inn (oJ nx fun k=>X k\/k=i)/\(∀u∈e.2,Ou (oJ nx fun k=>X k\/k=i) u)/\(∀x∈fP e.2,uT nx i x)/\∀u∈e.2,∃id t,u=.put id t:=by
  rintro f xs args ⟨_,hb⟩ ⟨r,hr,hd,rfl⟩
  obtain ⟨_,_,_,h4,h5⟩:=oM id r (nx+stride*i) (nx+stride*i) hd
  have h6:=(hb r hr hd).2
  have R:∀x,nx+stride*i<=x->x<(unpack (nx+stride*i) r).2.2->uT nx i x:=fun x h1 h2=>⟨h1,by unfold stride at *;omega⟩
  refine ⟨HV.inn_mono h4 fun x hx=>.inr ⟨i,.inr rfl,R x hx.1 hx.2⟩,?_,?_,?_⟩
  ·intro u hu
   obtain ⟨id,t,rfl,h1,h2,h3⟩:=h5 u hu
   exact ⟨.inr ⟨i,.inr rfl,R id h1 h2⟩,fun x hx=>by rw [h3] at hx;cases hx⟩
  ·intro x hx
   generalize (unpack (nx+stride*i) r).2.1=us at h5 hx
   induction us with
   | nil=>cases hx
   | cons u us ih =>
    obtain ⟨id,t,rfl,h1,h2,h3⟩:=h5 u (by simp)
    simp only [fP,zl008] at hx
    rcases hx with rfl|hx
    ·exact R _ h1 h2
    ·exact ih (fun u hu=>h5 u (by simp [hu])) hx
  ·intro u hu
   obtain ⟨id,t,rfl,_⟩:=h5 u hu
   exact ⟨id,t,rfl⟩
 have plain:e=((ae M (nx+stride*i) op).1,(ae M (nx+stride*i) op).2.1)->e.1.inn (oJ nx fun k=>X k\/k=i)/\(∀u∈e.2,Ou (oJ nx fun k=>X k\/k=i) u)/\(∀x∈fP e.2,uT nx i x\/(op.wrtO D.own=true/\x∈aN op.vals))/\(op.killer=false->∀u∈e.2,∃id t,u=.put id t):=by
  intro he
  obtain ⟨us0,a1,a2,a3,a4⟩:=zh (L:=M) (op:=op) (D:=aN op.vals) hv (fun x hx=>hx) hl hT
  have hv':=innL_iff.1 hv
  have b1:∀u∈us0,Ou (oJ nx fun k=>X k\/k=i) u:=fun u hu=>by
   have:=a1 u hu
   cases u with
   | put id t=>exact ⟨up _ (hv' id this.1),HV.inn_mono this.2 up⟩
   | kill=>trivial
  have b2:∀x∈fP us0,uT nx i x\/(op.wrtO D.own=true/\x∈aN op.vals):=by
   intro x hx
   right
   refine ⟨?_,?_⟩
   ·cases hw:op.wrt with
    | true=>exact HOp.wrtO_of D.own hw
    | false=>rw [a2 hw] at hx;cases hx
   ·clear a2 a3 a4 b1
    induction us0 with
    | nil=>cases hx
    | cons u us ih =>
     have ih:=ih (fun u hu=>a1 u (by simp [hu]))
     cases u with
     | put id t =>
      simp only [fP,zl008] at hx
      rcases hx with rfl|hx
      ·exact (a1 (.put x t) (by simp)).1
      ·exact ih hx
     | kill=>exact ih hx
  rcases a4 with ⟨v,q,h1,h2⟩|⟨mk,T,q,h0,h1,h2⟩
  ·rw [h2] at he
   subst he
   exact ⟨HV.inn_mono h1 up,b1,b2,a3⟩
  ·rw [h2] at he
   subst he
   refine ⟨?_,?_,?_,?_⟩
   ·rcases h0 with ⟨sz,n,rfl⟩|rfl|rfl
    ·simp only [DT];exact .inr ⟨i,.inr rfl,r0⟩
    ·simp only [vI];exact .inr ⟨i,.inr rfl,r0⟩
    ·simp only [vN];exact .inr ⟨i,.inr rfl,r0⟩
   ·intro u hu
    simp only [zl001,zl019] at hu
    rcases hu with hu|rfl
    ·exact b1 u hu
    ·exact ⟨.inr ⟨i,.inr rfl,r0⟩,HV.inn_mono h1 up⟩
   ·intro x hx
    simp only [xJ,fP,zl001,zl019] at hx
    rcases hx with hx|rfl
    ·exact b2 x hx
    ·exact .inl r0
   ·intro hk u hu
    simp only [zl001,zl019] at hu
    rcases hu with hu|rfl
    ·exact a3 hk u hu
    ·exact ⟨_,_,rfl⟩
 have w:(e.1.inn (oJ nx fun k=>X k\/k=i)/\(∀u∈e.2,Ou (oJ nx fun k=>X k\/k=i) u)/\(∀x∈fP e.2,uT nx i x)/\∀u∈e.2,∃id t,u=.put id t)->e.1.inn (oJ nx fun k=>X k\/k=i)/\(∀u∈e.2,Ou (oJ nx fun k=>X k\/k=i) u)/\(∀x∈fP e.2,uT nx i x\/(op.wrtO D.own=true/\x∈aN op.vals))/\(op.killer=false->∀u∈e.2,∃id t,u=.put id t) :=
  fun ⟨a,b,c,d⟩=>⟨a,b,fun x hx=>.inl (c x hx),fun _=>d⟩
 cases op
 case call f xs =>
  simp only [ku] at hs
  simp only [lM] at h
  by_cases ho:D.own f=true
  ·rw [if_pos ho] at hs h
   obtain ⟨r,hr,hd,rfl⟩:=h
   have hv:innL (oJ nx X) xs:=hv
   obtain ⟨_,a2⟩:=mF (D:=aN xs) M xs hv (fun x hx=>hx) hT
   have a3:=jg M xs
   obtain ⟨_,_,_,h4,h5⟩:=oM id r (nx+stride*i) (nx+stride*i) hd
   have h6:=hs.2.2 r hr hd
   have R:∀x,nx+stride*i<=x->x<(unpack (nx+stride*i) r).2.2->uT nx i x:=fun x h1 h2=>⟨h1,by unfold stride at *;omega⟩
   refine ⟨HV.inn_mono h4 fun x hx=>.inr ⟨i,.inr rfl,R x hx.1 hx.2⟩,fun u hu=>?_,fun x hx=>?_,fun _ u hu=>?_⟩
   ·rcases zl001.1 hu with hu|hu
    ·have:=a2 u hu
     cases u with
     | put id t=>exact ⟨up _ (innL_iff.1 hv id this.1),HV.inn_mono this.2 up⟩
     | kill=>trivial
    ·obtain ⟨id,t,rfl,h1,h2,h3⟩:=h5 u hu
     exact ⟨.inr ⟨i,.inr rfl,R id h1 h2⟩,fun x hx=>by rw [h3] at hx;cases hx⟩
   ·simp only [xJ,zl001] at hx
    rcases hx with hx|hx
    ·refine .inr ⟨ho,?_⟩
     show x∈aN xs
     generalize (ak M xs).2.1=us at a2 hx
     induction us with
     | nil=>cases hx
     | cons u us ih =>
      have ih:=ih (fun u hu=>a2 u (by simp [hu]))
      cases u with
      | put id t =>
       simp only [fP,zl008] at hx
       rcases hx with rfl|hx
       ·exact (a2 (.put x t) (by simp)).1
       ·exact ih hx
      | kill=>exact ih hx
    ·left
     generalize (unpack (nx+stride*i) r).2.1=us at h5 hx
     induction us with
     | nil=>cases hx
     | cons u us ih =>
      obtain ⟨id,t,rfl,h1,h2,h3⟩:=h5 u (by simp)
      simp only [fP,zl008] at hx
      rcases hx with rfl|hx
      ·exact R _ h1 h2
      ·exact ih (fun u hu=>h5 u (by simp [hu])) hx
   ·rcases zl001.1 hu with hu|hu
    ·exact a3 u hu
    ·obtain ⟨id,t,rfl,_⟩:=h5 u hu
     exact ⟨id,t,rfl⟩
  ·rw [if_neg ho] at hs h
   exact w (call f xs _ hs h)
 case callv x xs =>
  cases x
  case fn f cap=>exact w (call f (xs++cap) _ hs h)
  all_goals exact plain h
 all_goals exact plain h
mutual
theorem vO {p:Nat->Prop} (id len:Nat):∀v:HV,v.inn p->(v.kill id len).inn p
 | .ref i q sz o n,h=>by simp only [HV.kill];split;exact aV;exact h
 | .pref i q o,h=>by simp only [HV.kill];split;exact aV;exact h
 | .mref i q,h=>by simp only [HV.kill];split;exact aV;exact h
 | .agg cs,h=>by simp only [HV.kill,nZ] at h ⊢;exact sZ id len cs h
 | .tup cs,h=>by simp only [HV.kill,sJ] at h ⊢;exact sZ id len cs h
 | .fn f cs,h=>by simp only [HV.kill,wW] at h ⊢;exact sZ id len cs h
 | .int ..,h=>h
 | .bool _,h=>h
 | .str _,h=>h
 | .nils,h=>h
 | .nilp,h=>h
 | .nilf,h=>h
 | .sl ..,h=>h
 | .osl ..,h=>h
 | .ptr ..,h=>h
 | .optr _,h=>h
 | .nilm,h=>h
 | .rmap ..,h=>h
 | .omap ..,h=>h
 | .oitr ..,h=>h
 | .dead,h=>h
theorem sZ {p:Nat->Prop} (id len:Nat):∀l:List HV,innL p l->innL p (nY id len l)
 | [],h=>h
 | v::r,h=>by simp only [nY,ay] at h ⊢;exact ⟨vO id len v h.1,sZ id len r h.2⟩
end
theorem Iy {p:Nat->Prop} {us:List dJ} {S:Lk} (h:∀t,(S t).inn p) (t:Nat):(qF S us t).inn p:=by
 induction us generalizing S with
 | nil=>exact h t
 | cons u us ih =>
  cases u with
  | put=>exact ih h
  | kill id len=>exact ih fun t=>vO id len _ (h t)
theorem nT {X:Nat->Prop} (hI:Inv nx X S M) {o:HOper} (hl:lU o=true) {e:HV×List dJ} (hs:dU C D all (nx+stride*i) o S M) (h:fZ D all (nx+stride*i) o S M e) :
  e.1.inn (oJ nx fun k=>X k\/k=i)/\(∀u∈e.2,Ou (oJ nx fun k=>X k\/k=i) u)/\(∀x∈fP e.2,uT nx i x\/(o.op.wrtO D.own=true/\x∈iD o S))/\(o.op.killer=false->∀u∈e.2,∃id t,u=.put id t):=by
 unfold dU at hs
 unfold fZ at h
 split at hs
 ·rename_i hg
  rw [hg] at h
  have:=Oc (vM hI hl) (MR hl) hI.trees hs h
  rw [HOp.wrtO_map,HOp.killer_map] at this
  exact this
 ·rename_i hg
  rw [hg] at h
  subst h
  simp [fP]
 ·exact hs.elim
theorem Inv.step {X:Nat->Prop} (hI:Inv nx X S M) {o:HOper} {e:HV×List dJ} (h1:e.1.inn (oJ nx fun k=>X k\/k=i)) (h2:∀u∈e.2,Ou (oJ nx fun k=>X k\/k=i) u):Inv nx (fun k=>X k\/k=i) (jY o e S) (sV e M):=by
 have up:∀x,oJ nx X x->oJ nx (fun k=>X k\/k=i) x:=fun x hx=>jD (fun k hk=>.inl hk) hx
 refine ⟨fun t=>?_,fun id=>?_,fun id hid=>?_⟩
 ·unfold jY
  split
  ·exact h1
  ·exact Iy (fun t=>HV.inn_mono (hI.slots t) up) t
 ·exact Ol (fun id=>HV.inn_mono (hI.trees id) up) h2 id
 ·by_cases ht:id∈fP e.2
  ·generalize e.2=us at h2 ht
   induction us with
   | nil=>cases ht
   | cons u us ih =>
    cases u with
    | put j t =>
     simp only [fP,zl008] at ht
     rcases ht with rfl|ht
     ·exact (h2 (.put id t) (by simp)).1
     ·exact ih (fun u hu=>h2 u (by simp [hu])) ht
    | kill=>exact ih (fun u hu=>h2 u (by simp [hu])) ht
  ·unfold sV at hid
   rw [kZ ht] at hid
   exact up _ (hI.alive id hid)
end
def nN (masks:List Nat) (k i:Nat):Bool:=(masks.getD i 0).testBit k
def rG (all:List HOper) (x y:HOper):Bool :=
 (match x.dst with|some d=>!(looks all y).contains d&&y.dst != some d|none=>true)&&(match y.dst with|some d=>!(looks all x).contains d|none=>true)
def qA (own:FuncId->Bool) (x y:HOper):Bool:=(x.op.wrtO own&&y.op.touch) || (y.op.wrtO own&&x.op.touch)
def LK (x y:HOper):Bool:=(x.op.wrt&&y.op.touch) || (y.op.wrt&&x.op.touch)
theorem Am (x y:HOper):qA (fun _=>false) x y=LK x y:=by simp only [qA,LK,HOp.wrtO_no]
def qL (o:HOper):Bool:=match o.op,o.guard with
 | .ext (.t _) _,none=>true
 | _,_=>false
def Aj (all:List HOper) (x y:HOper):Bool:=rG all x y&&(qL x || qL y || (!x.op.killer&&!y.op.killer))
def NU (masks:List Nat) (all:List HOper) (i:Nat) (o:HOper):Bool :=
 decide (masks.getD i 0<2 ^ i)&&lU o&&(List.range i).all fun k=>nN masks k i || (match all[k]? with|some q=>Aj all q o|none=>false)
def kU (masks:List Nat) (all:List HOper):Bool :=
 (List.range all.length).all fun i=>match all[i]? with|some o=>NU masks all i o|none=>false
theorem oh {all:List HOper} {x y:HOper} (h:rG all x y=true):(∀d,x.dst=some d->d ∉ looks all y)/\(∀d,x.dst=some d->y.dst≠some d)/\(∀d,y.dst=some d->d ∉ looks all x):=by
 refine ⟨fun d hd=>?_,fun d hd=>?_,fun d hd=>?_⟩<;>simp [rG,hd] at h
 ·exact h.1.1
 ·exact h.1.2
 ·exact h.2
theorem Ff {all:List HOper} {x y:HOper} (h:rG all x y=true):rG all y x=true:=by
 obtain ⟨h1,h2,h3⟩:=oh h
 unfold rG
 cases hx:x.dst with
 | none =>
  cases hy:y.dst with
  | none=>rfl
  | some d=>have:=h3 d hy;simp [this]
 | some d =>
  have a1:=h1 d hx
  have a2:=h2 d hx
  cases hy:y.dst with
  | none=>simp [a1]
  | some d' =>
   have a3:=h3 d' hy
   rw [hy] at a2
   have:¬ d=d':=fun e=>a2 (by rw [e])
   simp [a1,a3,this]
theorem GK (own:FuncId->Bool) (x y:HOper):qA own x y=qA own y x:=by unfold qA;rw [Bool.or_comm]
def D6 (o:HOper) (S:Lk):Option Nat:=match o.op.map (bT S) with
 | .load false _ (.pref id [] _)=>some id
 | _=>none
def qg (o:HOper) (S:Lk):List Nat:=match D6 o S with
 | some id=>[2*id+1]
 | none=>(iD o S).map (2*·)
def Be (o:HOper) (S:Lk):Option Nat:=match o.op.map (bT S) with
 | .app true _ _ (.ref id (_::_::_) _ _ _) _=>some id
 | _=>none
def vZ (o:HOper) (S:Lk) (us:List dJ):List Nat:=(fP us).flatMap fun x=>if Be o S=some x then [2*x] else [2*x,2*x+1]
def xP:HV->HV
 | .osl sz n _=>.osl sz n []
 | .optr _=>.optr []
 | .omap m ks _=>.omap m ks []
 | v=>v
def shallow (t:HV):List HV:=(aJ t).map xP
def yx (c:Nat) (M M':Lk):Prop:=if c % 2=0 then M (c / 2)=M' (c / 2) else shallow (M (c / 2))=shallow (M' (c / 2))
theorem Jj {c:Nat} {M M':Lk} (h:M (c / 2)=M' (c / 2)):yx c M M':=by
 unfold yx;split
 ·exact h
 ·rw [h]
theorem qR {o:HOper} {S:Lk} {c:Nat} (h:c∈qg o S):c / 2∈iD o S:=by
 unfold qg at h
 split at h
 ·rename_i id hs
  simp only [zl019] at h
  subst h
  unfold D6 at hs
  split at hs
  ·rename_i sz id' off ho
   cases hs
   unfold iD
   rw [ho]
   simp [HOp.vals,aN,HV.deep];omega
  ·cases hs
 ·obtain ⟨x,hx,rfl⟩:=zl023.1 h
  simpa using hx
theorem FK {o:HOper} {S:Lk} {us:List dJ} {c:Nat} (h:c∈vZ o S us):c / 2∈fP us:=by
 unfold vZ at h
 obtain ⟨x,hx,hc⟩:=zl086.1 h
 split at hc
 ·simp only [zl019] at hc;subst hc;simpa using hx
 ·simp only [zl008,yP,or_false] at hc
  rcases hc with rfl|rfl
  ·simpa using hx
  ·have:(2*x+1) / 2=x:=by omega
   rw [this];exact hx
theorem y7 {o:HOper} {S:Lk} {us:List dJ} {x:Nat} (h:x∈fP us):2*x∈vZ o S us:=by
 unfold vZ
 refine zl086.2 ⟨x,h,?_⟩
 split<;>simp
theorem IE {o:HOper} {S:Lk} {us:List dJ} {x:Nat} (h:x∈fP us) (h2:2*x+1 ∉ vZ o S us):Be o S=some x:=by
 by_cases hd:Be o S=some x
 ·exact hd
 ·exact absurd (zl086.2 ⟨x,h,by rw [if_neg hd];simp⟩) h2
theorem Pz {own:FuncId->Bool} {o:HOper} {S:Lk} (h:o.op.wrtO own=true):qg o S=(iD o S).map (2*·):=by
 have:D6 o S=none:=by
  unfold D6
  obtain ⟨d,op,g⟩:=o
  cases op<;>first|rfl|(simp only [HOp.wrtO,HOp.wrt] at h;cases h;done)
 unfold qg;rw [this]
theorem Ih {x:HV} {a:Nat} {q:List Nat} (v:HV):xP (cu x v (a::q))=xP v:=by cases v<;>rfl
theorem DD {x t:HV} {a b:Nat} {q:List Nat}:shallow (cu x t (a::b::q))=shallow t:=by
 have key:∀cs:List HV,(cs.set a (cu x (cs.getD a .dead) (b::q))).map xP=cs.map xP:=fun cs=>by
  rw [List.map_set,Ih]
  apply o7
  intro k
  rw [List.getElem?_set]
  split
  ·rename_i e;subst e
   split
   ·rename_i h;simp at h;simp [h]
   ·rename_i h;simp at h;simp [h]
  ·rfl
 cases t<;>simp only [cu,shallow,aJ]<;>first|rfl|exact key _
theorem zu (id:Nat) (p:List Nat) (j:Nat) (v:HV):look id p j v=look id p j (xP v):=by
 cases v<;>rfl
theorem CX {id off sz fr:Nat} {M M':Lk} (h:shallow (M id)=shallow (M' id)):ae M fr (.load false sz (.pref id [] off))=ae M' fr (.load false sz (.pref id [] off)):=by
 have hl:(aJ (M id)).length=(aJ (M' id)).length:=by
  have:=congrArg List.length h
  simpa [shallow] using this
 have hg:xP ((aJ (M id)).getD off .dead)=xP ((aJ (M' id)).getD off .dead):=by
  have:=congrArg (fun l:List HV=>l[off]?) h
  simp only [shallow,iT] at this
  simp only [dW]
  cases h1:(aJ (M id))[off]?<;>cases h2:(aJ (M' id))[off]?<;>rw [h1,h2] at this<;>simp_all
 have e1:look id [] off ((aJ (M id)).getD off .dead)=look id [] off ((aJ (M' id)).getD off .dead):=by rw [zu,hg,<- zu]
 simp only [ae,ah,e1,hl,Bool.false_eq_true,if_false]
abbrev pU:=List (Nat×List Nat×List Nat)
def chk (own:FuncId->Bool) (masks:List Nat) (all:List HOper) (i:Nat) (o:HOper) (e:HV×List dJ) (S:Lk) (q:Nat×List Nat×List Nat):Prop :=
 nN masks q.1 i=false->nN masks i q.1=false->∀o',all[q.1]?=some o'->qA own o' o=true->(∀x∈vZ o S e.2,x ∉ q.2.2)/\∀x∈q.2.1,x ∉ qg o S
section
variable {C:CF} {D:DS} {all:List HOper} {masks:List Nat} {nx:Nat} {K:Lk->Lk->Prop}
def dr (C:CF) (D:DS) (all:List HOper) (masks:List Nat) (nx:Nat) (K:Lk->Lk->Prop):List Nat->pU->Lk->Lk->Prop
 | [],_,S,M=>K S M
 | i::l,log,S,M=>∃o,all[i]?=some o/\dU C D all (nx+stride*i) o S M/\(∃e,fZ D all (nx+stride*i) o S M e) /\
   ∀e,fZ D all (nx+stride*i) o S M e->(∀q∈log,chk D.own masks all i o e S q)/\dr C D all masks nx K l ((i,vZ o S e.2,qg o S)::log) (jY o e S) (sV e M)
theorem P8:∀ {l:List Nat} {log log':pU} {S M:Lk},dr C D all masks nx K l log S M->(∀q∈log',q∈log)->dr C D all masks nx K l log' S M:=by
 intro l
 induction l with
 | nil=>intro log log' S M h _;exact h
 | cons i l ih =>
  intro log log' S M h hl
  obtain ⟨o,ho,hs,he,h⟩:=h
  refine ⟨o,ho,hs,he,fun e hre=>⟨fun q hq=>(h e hre).1 q (hl q hq),ih (h e hre).2 ?_⟩⟩
  intro q hq
  rcases zl008.1 hq with rfl|hq
  ·simp
  ·exact nG _ (hl q hq)
theorem EL {o:HOper} {S S':Lk} (hS:∀t∈looks all o,S t=S' t):iD o S=iD o S':=by unfold iD;rw [jo hS]
theorem jQ {o:HOper} {S S':Lk} (hS:∀t∈looks all o,S t=S' t):qg o S=qg o S':=by unfold qg D6;rw [EL hS,jo hS]
theorem jP {o:HOper} {S S':Lk} (hS:∀t∈looks all o,S t=S' t) (us:List dJ):vZ o S us=vZ o S' us:=by unfold vZ Be;rw [jo hS]
theorem vw {fr:Nat} {o:HOper} {S S' M M':Lk} (hS:∀t∈looks all o,S t=S' t) (hM:o.op.touch=false\/∀c∈qg o S,yx c M M'):dU C D all fr o S M=dU C D all fr o S' M':=by
 rcases hM with h|h
 ·exact oC hS (.inl h)
 ·cases hs:D6 o S with
  | none =>
   unfold qg at h
   rw [hs] at h
   refine oC hS (.inr fun x hx=>?_)
   have:=h (2*x) (List.mem_map_of_mem hx)
   unfold yx at this
   rw [if_pos (by omega)] at this
   simpa using this
  | some id =>
   unfold qg at h
   rw [hs] at h
   have hv:=h (2*id+1) (by simp)
   unfold yx at hv
   rw [if_neg (by omega),show (2*id+1) / 2=id by omega] at hv
   unfold dU
   rw [<- vK hS,<- jo hS]
   unfold D6 at hs
   split at hs
   ·rename_i sz id' off ho
    cases hs
    rw [ho]
    simp only [ku,CX hv]
   ·cases hs
theorem rW {fr:Nat} {o:HOper} {e:HV×List dJ} {S S' M M':Lk} (hS:∀t∈looks all o,S t=S' t) (hM:o.op.touch=false\/∀c∈qg o S,yx c M M'):fZ D all fr o S M e=fZ D all fr o S' M' e:=by
 rcases hM with h|h
 ·exact pz hS (.inl h)
 ·cases hs:D6 o S with
  | none =>
   unfold qg at h
   rw [hs] at h
   refine pz hS (.inr fun x hx=>?_)
   have:=h (2*x) (List.mem_map_of_mem hx)
   unfold yx at this
   rw [if_pos (by omega)] at this
   simpa using this
  | some id =>
   unfold qg at h
   rw [hs] at h
   have hv:=h (2*id+1) (by simp)
   unfold yx at hv
   rw [if_neg (by omega),show (2*id+1) / 2=id by omega] at hv
   unfold fZ
   rw [<- vK hS,<- jo hS]
   unfold D6 at hs
   split at hs
   ·rename_i sz id' off ho
    cases hs
    rw [ho]
    simp only [lM,CX hv]
   ·cases hs
theorem EE {fr:Nat} {o:HOper} {e:HV×List dJ} {S M:Lk} {x:Nat} (hs:dU C D all fr o S M) (hr:fZ D all fr o S M e) (hd:Be o S=some x) (hx:x≠fr):shallow (sV e M x)=shallow (M x):=by
 unfold Be at hd
 split at hd
 ·rename_i sz bytes id a b q sz2 off n y ho
  cases hd
  unfold dU at hs
  unfold fZ at hr
  split at hs
  ·rename_i hg
   rw [hg,ho] at hr
   rw [ho] at hs
   have hn:(aU M true sz y).2.2.1=[]:=by
    unfold aU
    split<;>(try split)<;>(try split)<;>first|rfl|simp_all
   simp only [ku,ae] at hs
   simp only [lM,ae] at hr
   rw [hn] at hs hr
   simp only [Lk.upd] at hs hr
   cases ht:ah (M x) (a::b::q)<;>rw [ht] at hs hr<;>simp only at hs hr<;>(first|exact hs.elim|skip)
   subst hr
   unfold sV
   simp only [List.nil_append,Lk.upd,if_neg hx,if_true]
   exact DD
  ·rename_i hg
   rw [hg] at hr
   subst hr
   rfl
  ·exact hs.elim
 ·cases hd
theorem xh {o:HOper} (h:qL o=true):∃d k i,o=⟨d,.ext (.t k) i,none⟩:=by
 obtain ⟨d,op,g⟩:=o
 cases op<;>simp only [qL] at h<;>(first|(cases h;done)|skip)
 rename_i x i
 cases x<;>cases g<;>simp only at h<;>(first|(cases h;done)|exact ⟨d,_,i,rfl⟩)
theorem nV {own:FuncId->Bool} {o o':HOper} (h:qL o=true):qA own o' o=false/\qA own o o'=false:=by
 obtain ⟨d,k,i,rfl⟩:=xh h
 simp [qA,HOp.wrtO,HOp.wrt,HOp.touch]
def gp:List dJ->HV->HV
 | [],v=>v
 | .put _ _::r,v=>gp r v
 | .kill id len::r,v=>gp r (v.kill id len)
theorem wC:∀ (us:List dJ) (S:Lk) (t:Nat),qF S us t=gp us (S t)
 | [],_,_=>rfl
 | .put _ _::r,S,t=>wC r S t
 | .kill id len::r,S,t=>wC r (fun t=>(S t).kill id len) t
theorem CG (id len:Nat):∀l:List HV,nY id len l=l.map fun v=>v.kill id len
 | []=>rfl
 | v::r=>by rw [nY,CG id len r];rfl
theorem mY:∀ (us:List dJ) (cs:List HV),gp us (.tup cs)=.tup (cs.map (gp us))
 | [],cs=>by simp [gp]
 | .put _ _::r,cs=>by simp only [gp];exact mY r cs
 | .kill id len::r,cs=>by
  simp only [gp,HV.kill,CG]
  rw [mY r,iG]
  rfl
theorem qZ:∀ (us:List dJ) (v:HV) {cs:List HV},gp us v=.tup cs->∃cs',v=.tup cs'
 | [],v,cs,h=>⟨cs,h⟩
 | .put _ _::r,v,cs,h=>qZ r v h
 | .kill id len::r,v,cs,h=>by
  obtain ⟨cs',h'⟩:=qZ r _ h
  cases v<;>simp only [HV.kill] at h'<;>(first|exact ⟨_,rfl⟩|(cases h';done)|(split at h'<;>cases h'))
theorem sN {d:Option Nat} {k i fr:Nat} {S M:Lk} {e:HV×List dJ} (hs:dU C D all fr ⟨d,.ext (.t k) i,none⟩ S M):fZ D all fr ⟨d,.ext (.t k) i,none⟩ S M e <-> ∃cs,S k=.tup cs/\i<cs.length/\e=(cs.getD i .dead,[]):=by
 have hs':(ae M fr (.ext (S k) i)).2.2:=hs
 have hd:fZ D all fr ⟨d,.ext (.t k) i,none⟩ S M e <-> e=((ae M fr (.ext (S k) i)).1,(ae M fr (.ext (S k) i)).2.1):=Iff.rfl
 rw [hd]
 cases hk:S k<;>rw [hk] at hs'<;>simp only [ae] at hs' ⊢<;>(first|exact hs'.elim|skip)
 rename_i cs
 constructor
 ·intro h;exact ⟨cs,rfl,hs',h⟩
 ·rintro ⟨cs',h1,h2,h3⟩;cases h1;exact h3
theorem ext_side {d:Option Nat} {k i fr:Nat} {S M:Lk}:dU C D all fr ⟨d,.ext (.t k) i,none⟩ S M <-> ∃cs,S k=.tup cs/\i<cs.length:=by
 have hd:dU C D all fr ⟨d,.ext (.t k) i,none⟩ S M <-> (ae M fr (.ext (S k) i)).2.2:=Iff.rfl
 rw [hd]
 cases hk:S k<;>simp [ae]
theorem Jh:∀ {l:List Nat} {log log':pU} {S M:Lk},dr C D all masks nx K l log S M->(∀q∈log',q∈log\/∃o,all[q.1]?=some o/\qL o=true)->dr C D all masks nx K l log' S M:=by
 intro l
 induction l with
 | nil=>intro log log' S M h _;exact h
 | cons i l ih =>
  intro log log' S M h hl
  obtain ⟨o,ho,hs,he,h⟩:=h
  refine ⟨o,ho,hs,he,fun e hre=>⟨fun q hq=>?_,ih (h e hre).2 ?_⟩⟩
  ·rcases hl q hq with h1|⟨o1,h1,h2⟩
   ·exact (h e hre).1 q h1
   ·intro _ _ o' ho' hsu
    rw [h1] at ho';cases ho'
    rw [(nV h2).2] at hsu;cases hsu
  ·intro q hq
   rcases zl008.1 hq with rfl|hq
   ·exact .inl (by simp)
   ·rcases hl q hq with h|h
    ·exact .inl (nG _ h)
    ·exact .inr h
theorem mr (o:HOper) (e:HV×List dJ) (S:Lk) (t:Nat):jY o e S t=if o.dst=some t then e.1 else gp e.2 (S t):=by
 unfold jY;rw [wC]
theorem EH {i j:Nat} {l:List Nat} {log:pU} {S M:Lk} {oi oj:HOper} (hoi:all[i]?=some oi) (hoj:all[j]?=some oj) (hx:qL oi=true) (hap:rG all oi oj=true) (h:dr C D all masks nx K (i::j::l) log S M):dr C D all masks nx K (j::i::l) log S M:=by
 obtain ⟨oi',hoi',si,⟨ei,ri⟩,hi⟩:=h
 rw [hoi] at hoi';cases hoi'
 have hxx:=hx
 obtain ⟨d,k,n,rfl⟩:=xh hx
 obtain ⟨ap1,ap2,ap3⟩:=oh hap
 obtain ⟨cs,hk,hn,rfl⟩:=(sN si).1 ri
 obtain ⟨_,oj',hoj',sj,⟨ej0,rj0⟩,hj⟩:=hi _ ri
 rw [hoj] at hoj';cases hoj'
 have lj:∀t∈looks all oj,S t=jY ⟨d,.ext (.t k) n,none⟩ (cs.getD n .dead,[]) S t:=fun t ht=>by
  rw [mr,if_neg (fun e=>ap1 t e ht)];rfl
 have aj:oj.op.touch=false\/∀x∈iD oj S,M x=sV (cs.getD n .dead,[]) M x:=.inr fun _ _=>rfl
 have ej:=fun e=>pz (D:=D) (fr:=nx+stride*j) (e:=e) lj aj
 have hkd:∀t,oj.dst=some t->t≠k:=fun t ht e=>ap3 t ht (by subst e;simp [looks,HOp.vals,slotsOf])
 refine ⟨oj,hoj,by rw [oC lj aj];exact sj,⟨ej0,by rw [ej];exact rj0⟩,fun e2 r2=>⟨?_,?_⟩⟩
 ·intro q hq a b o' ho' hs
  have:=(hj e2 (by rw [<- ej];exact r2)).1 q (nG _ hq) a b o' ho' hs
  rw [<- jQ lj,<- jP lj] at this
  exact this
 ·have hk2:jY oj e2 S k=.tup (cs.map (gp e2.2)):=by
   rw [mr,if_neg (fun e=>hkd k e rfl),hk,mY]
  have si2:dU C D all (nx+stride*i) ⟨d,.ext (.t k) n,none⟩ (jY oj e2 S) (sV e2 M):=ext_side.2 ⟨_,hk2,by simpa using hn⟩
  refine ⟨_,hoi,si2,⟨_,(sN si2).2 ⟨_,hk2,by simpa using hn,rfl⟩⟩,fun e1 r1=>⟨?_,?_⟩⟩
  ·intro q hq a b o' ho' hs
   rw [(nV hxx).1] at hs;cases hs
  ·obtain ⟨cs2,hk3,hn2,rfl⟩:=(sN si2).1 r1
   rw [hk2] at hk3;cases hk3
   have hd:=(hj e2 (by rw [<- ej];exact r2)).2
   have eS:jY oj e2 (jY ⟨d,.ext (.t k) n,none⟩ (cs.getD n .dead,[]) S)=jY ⟨d,.ext (.t k) n,none⟩ ((cs.map (gp e2.2)).getD n .dead,[]) (jY oj e2 S):=by
    funext t
    simp only [mr]
    have hg:(cs.map (gp e2.2)).getD n .dead=gp e2.2 (cs.getD n .dead):=by
     simp only [dW,iT,dS hn,iq,gV]
    by_cases h1:d=some t
    ·have:¬ oj.dst=some t:=ap2 t h1
     simp only [h1,this,if_true,if_false,hg,gp]
    ·simp only [h1,if_false,gp]
   rw [eS] at hd
   refine Jh hd fun q hq=>?_
   simp only [zl008] at hq
   rcases hq with rfl|rfl|hq
   ·exact .inr ⟨_,hoi,hxx⟩
   ·rw [jQ lj,jP lj];exact .inl (BV ..)
   ·exact .inl (nG _ (nG _ hq))
theorem DZ {i j:Nat} {l:List Nat} {log:pU} {S M:Lk} {oi oj:HOper} (hoi:all[i]?=some oi) (hoj:all[j]?=some oj) (hx:qL oi=true) (hap:rG all oi oj=true) (h:dr C D all masks nx K (j::i::l) log S M):dr C D all masks nx K (i::j::l) log S M:=by
 obtain ⟨oj',hoj',sj,⟨ej0,rj0⟩,hj⟩:=h
 rw [hoj] at hoj';cases hoj'
 have hxx:=hx
 obtain ⟨d,k,n,rfl⟩:=xh hx
 obtain ⟨ap1,ap2,ap3⟩:=oh hap
 have hkd:∀t,oj.dst=some t->t≠k:=fun t ht e=>ap3 t ht (by subst e;simp [looks,HOp.vals,slotsOf])
 have hk2:∀e2,jY oj e2 S k=gp e2.2 (S k):=fun e2=>by rw [mr,if_neg (fun e=>hkd k e rfl)]
 obtain ⟨_,oi',hoi',si0,_,_⟩:=hj ej0 rj0
 rw [hoi] at hoi';cases hoi'
 obtain ⟨cs0,hk0,hn0⟩:=ext_side.1 si0
 rw [hk2] at hk0
 obtain ⟨cs,hk⟩:=qZ _ _ hk0
 rw [hk,mY] at hk0
 cases hk0
 have hn:n<cs.length:=by simpa using hn0
 have si:dU C D all (nx+stride*i) ⟨d,.ext (.t k) n,none⟩ S M:=ext_side.2 ⟨cs,hk,hn⟩
 refine ⟨_,hoi,si,⟨_,(sN si).2 ⟨cs,hk,hn,rfl⟩⟩,fun e1 r1=>⟨fun q hq a b o' ho' hs=>?_,?_⟩⟩
 ·rw [(nV hxx).1] at hs;cases hs
 ·obtain ⟨cs1,hk1,_,rfl⟩:=(sN si).1 r1
  rw [hk] at hk1;cases hk1
  have lj:∀t∈looks all oj,S t=jY ⟨d,.ext (.t k) n,none⟩ (cs.getD n .dead,[]) S t:=fun t ht=>by
   rw [mr,if_neg (fun e=>ap1 t e ht)];rfl
  have aj:oj.op.touch=false\/∀x∈iD oj S,M x=sV (cs.getD n .dead,[]) M x:=.inr fun _ _=>rfl
  have ej:=fun e=>pz (D:=D) (fr:=nx+stride*j) (e:=e) lj aj
  refine ⟨oj,hoj,by rw [<- oC lj aj];exact sj,⟨ej0,by rw [<- ej];exact rj0⟩,fun e2 r2=>⟨?_,?_⟩⟩
  ·intro q hq a b o' ho' hs
   rcases zl008.1 hq with rfl|hq
   ·simp only at ho'
    rw [hoi] at ho';cases ho'
    rw [(nV hxx).2] at hs;cases hs
   ·have:=(hj e2 (by rw [ej];exact r2)).1 q hq a b o' ho' hs
    rw [jQ lj,jP lj] at this
    exact this
  ·obtain ⟨_,oi',hoi',si2,_,hi⟩:=hj e2 (by rw [ej];exact r2)
   rw [hoi] at hoi';cases hoi'
   have hk3:jY oj e2 S k=.tup (cs.map (gp e2.2)):=by rw [hk2,hk,mY]
   have hd:=(hi _ ((sN si2).2 ⟨_,hk3,by simpa using hn,rfl⟩)).2
   have eS:jY oj e2 (jY ⟨d,.ext (.t k) n,none⟩ (cs.getD n .dead,[]) S)=jY ⟨d,.ext (.t k) n,none⟩ ((cs.map (gp e2.2)).getD n .dead,[]) (jY oj e2 S):=by
    funext t
    simp only [mr]
    have hg:(cs.map (gp e2.2)).getD n .dead=gp e2.2 (cs.getD n .dead):=by
     simp only [dW,iT,dS hn,iq,gV]
    by_cases h1:d=some t
    ·have:¬ oj.dst=some t:=ap2 t h1
     simp only [h1,this,if_true,if_false,hg,gp]
    ·simp only [h1,if_false,gp]
   rw [<- eS] at hd
   refine Jh hd fun q hq=>?_
   simp only [zl008] at hq
   rcases hq with rfl|rfl|hq
   ·rw [<- jQ lj,<- jP lj];exact .inl (nG _ (BV ..))
   ·exact .inr ⟨_,hoi,hxx⟩
   ·exact .inl (nG _ (nG _ hq))
theorem OZ {X:Nat->Prop} {i j:Nat} {l:List Nat} {log:pU} {S M:Lk} {oi oj:HOper} (hij:i≠j) (hoi:all[i]?=some oi) (hoj:all[j]?=some oj) (hp:Aj all oi oj=true) (hli:lU oi=true) (hlj:lU oj=true)
  (hb1:nN masks i j=false) (hb2:nN masks j i=false) (hI:Inv nx X S M) (hXi:¬ X i) (hXj:¬ X j) (h:dr C D all masks nx K (i::j::l) log S M):dr C D all masks nx K (j::i::l) log S M:=by
 simp only [Aj,aG,uy,uu] at hp
 obtain ⟨hap,(hx|hx)|⟨hki,hkj⟩⟩:=hp
 ·exact EH hoi hoj hx hap h
 ·exact DZ hoj hoi hx (Ff hap) h
 obtain ⟨oi',hoi',si,⟨ei0,ri0⟩,hi⟩:=h
 rw [hoi] at hoi';cases hoi'
 obtain ⟨ap1,ap2,ap3⟩:=oh hap
 have inI:∀x∈iD oi S,oJ nx X x:=fun x hx=>innL_iff.1 (vM hI hli) x hx
 have inJ:∀x∈iD oj S,oJ nx X x:=fun x hx=>innL_iff.1 (vM hI hlj) x hx
 have wt:∀o:HOper,o.op.wrtO D.own=true->o.op.touch=true:=fun o=>by cases o.op<;>simp [HOp.wrtO,HOp.wrt,HOp.touch]
 have lj:∀ei,fZ D all (nx+stride*i) oi S M ei->∀t∈looks all oj,S t=jY oi ei S t:=fun ei re t ht=>by
  obtain ⟨_,_,_,f4⟩:=nT hI hli si re
  unfold jY
  rw [if_neg (fun e=>ap1 t e ht),iU (f4 hki)]
 have aj:∀ei,fZ D all (nx+stride*i) oi S M ei->oj.op.touch=false\/∀c∈qg oj S,yx c M (sV ei M):=fun ei re=>by
  obtain ⟨_,_,f3,f4⟩:=nT hI hli si re
  obtain ⟨_,oj',hoj',sj,⟨ej0,rj0⟩,hj⟩:=hi ei re
  rw [hoj] at hoj';cases hoj'
  cases htj:oj.op.touch with
  | false=>exact .inl rfl
  | true =>
   right
   intro c hc
   have hx:=qR hc
   by_cases hxt:c / 2∈fP ei.2
   ·rcases f3 _ hxt with hr|⟨hw,_⟩
    ·exact absurd (nP (inJ _ hx) hr) hXi
    ·have hck:=((hj ej0 rj0).1 _ (BV ..) hb1 hb2 oi hoi (by simp [qA,hw,htj])).2
     by_cases hcw:c∈vZ oi S ei.2
     ·exact absurd (by rw [<- jQ (lj ei re)];exact hc) (hck c hcw)
     ·have hodd:c % 2=1:=by
       rcases Nat.mod_two_eq_zero_or_one c with h0|h0
       ·have:=y7 (o:=oi) (S:=S) hxt
        rw [show 2*(c / 2)=c by omega] at this
        exact absurd this hcw
       ·exact h0
      have hd:=IE (o:=oi) (S:=S) hxt (by rw [show 2*(c / 2)+1=c by omega];exact hcw)
      unfold yx
      rw [if_neg (by omega)]
      exact (EE si re hd (fun e=>hXi (nP (inJ _ hx) (by rw [e];unfold uT stride;omega)))).symm
   ·exact Jj (kZ hxt).symm
 obtain ⟨_,oj',hoj',sj,⟨ej0,rj0⟩,hj0⟩:=hi ei0 ri0
 rw [hoj] at hoj';cases hoj'
 have ej:∀ei,fZ D all (nx+stride*i) oi S M ei->∀e,fZ D all (nx+stride*j) oj S M e=fZ D all (nx+stride*j) oj (jY oi ei S) (sV ei M) e:=fun ei re e=>rW (lj ei re) (aj ei re)
 have sj':dU C D all (nx+stride*j) oj S M:=by rw [vw (lj ei0 ri0) (aj ei0 ri0)];exact sj
 refine ⟨oj,hoj,sj',⟨ej0,by rw [ej ei0 ri0];exact rj0⟩,fun e2 r2=>⟨?_,?_⟩⟩
 ·intro q hq a b o' ho' hs
  have:=(hj0 e2 (by rw [<- ej ei0 ri0];exact r2)).1 q (nG _ hq) a b o' ho' hs
  rw [<- jQ (lj ei0 ri0),<- jP (lj ei0 ri0)] at this
  exact this
 ·obtain ⟨_,_,g3,g4⟩:=nT hI hlj sj' r2
  have li:∀t∈looks all oi,S t=jY oj e2 S t:=fun t ht=>by
   unfold jY
   rw [if_neg (fun e=>ap3 t e ht),iU (g4 hkj)]
  have ai:oi.op.touch=false\/∀c∈qg oi S,yx c M (sV e2 M):=by
   cases hti:oi.op.touch with
   | false=>exact .inl rfl
   | true =>
    right
    intro c hc
    have hx:=qR hc
    by_cases hxt:c / 2∈fP e2.2
    ·rcases g3 _ hxt with hr|⟨hw,_⟩
     ·exact absurd (nP (inI _ hx) hr) hXj
     ·have hck:=((hj0 e2 (by rw [<- ej ei0 ri0];exact r2)).1 _ (BV ..) hb1 hb2 oi hoi (by simp [qA,hw,hti])).1
      rw [<- jP (lj ei0 ri0)] at hck
      by_cases hcw:c∈vZ oj S e2.2
      ·exact absurd hc (hck c hcw)
      ·have hodd:c % 2=1:=by
        rcases Nat.mod_two_eq_zero_or_one c with h0|h0
        ·have:=y7 (o:=oj) (S:=S) hxt
         rw [show 2*(c / 2)=c by omega] at this
         exact absurd this hcw
        ·exact h0
       have hd:=IE (o:=oj) (S:=S) hxt (by rw [show 2*(c / 2)+1=c by omega];exact hcw)
       unfold yx
       rw [if_neg (by omega)]
       exact (EE sj' r2 hd (fun e=>hXj (nP (inI _ hx) (by rw [e];unfold uT stride;omega)))).symm
    ·exact Jj (kZ hxt).symm
  refine ⟨oi,hoi,by rw [<- vw li ai];exact si,⟨ei0,by rw [<- rW li ai];exact ri0⟩,fun e1 r1=>?_⟩
  rw [<- rW li ai] at r1
  obtain ⟨c1,oj',hoj',_,_,hj⟩:=hi e1 r1
  rw [hoj] at hoj';cases hoj'
  obtain ⟨d1,d2⟩:=hj e2 (by rw [<- ej e1 r1];exact r2)
  obtain ⟨_,_,f3,f4⟩:=nT hI hli si r1
  have eoi:=jQ li
  have eoj:=jQ (lj e1 r1)
  have ewi:=jP li e1.2
  have ewj:=jP (lj e1 r1) e2.2
  refine ⟨?_,?_⟩
  ·intro q hq a b o' ho' hs
   rcases zl008.1 hq with rfl|hq
   ·simp only at ho'
    rw [hoj] at ho';cases ho'
    have:=d1 _ (BV ..) hb1 hb2 oi hoi (by rw [GK];exact hs)
    simp only [<- eoj,<- ewj] at this
    simp only [<- eoi,<- ewi]
    exact ⟨this.2,this.1⟩
   ·have:=c1 q hq a b o' ho' hs
    rw [eoi,ewi] at this
    exact this
  ·have eS:jY oj e2 (jY oi e1 S)=jY oi e1 (jY oj e2 S):=by
    funext t
    unfold jY
    rw [iU (f4 hki),iU (g4 hkj),iU (g4 hkj),iU (f4 hki)]
    by_cases h1:oi.dst=some t
    ·have:¬ oj.dst=some t:=ap2 t h1
     simp [h1,this]
    ·simp [h1]
   have eM:sV e2 (sV e1 M)=sV e1 (sV e2 M):=by
    funext x
    unfold sV
    by_cases h1:x∈fP e1.2
    ·have h2:x ∉ fP e2.2:=fun h2=>by
      rcases f3 x h1 with a|⟨w1,a⟩<;>rcases g3 x h2 with b|⟨w2,b⟩
      ·exact hij (I4 a b)
      ·exact hXi (nP (inJ x b) a)
      ·exact hXj (nP (inI x a) b)
      ·have:=(d1 _ (BV ..) hb1 hb2 oi hoi (by simp [qA,w1,wt oj w2])).1 (2*x) (y7 h2)
       simp only [Pz w1] at this
       exact this (List.mem_map_of_mem a)
     rw [kZ h2]
     exact uP (.inl h1)
    ·rw [kZ h1]
     by_cases h2:x∈fP e2.2
     ·exact uP (.inl h2)
     ·rw [kZ h2,kZ h1,kZ h2]
   rw [<- eS,<- eM]
   refine P8 d2 fun q hq=>?_
   simp only [<- eoi,<- eoj,<- ewi,<- ewj,zl008] at hq ⊢
   rcases hq with h|h|h
   ·exact .inr (.inl h)
   ·exact .inl h
   ·exact .inr (.inr h)
theorem FY {j:Nat} {oj:HOper} (hoj:all[j]?=some oj) (hlj:lU oj=true):∀ (l1 l2:List Nat) (X:Nat->Prop) (log:pU) (S M:Lk),Inv nx X S M->¬ X j->(∀i∈l1,i≠j/\¬ X i/\∃oi,all[i]?=some oi/\lU oi=true/\Aj all oi oj=true/\nN masks i j=false/\nN masks j i=false)->l1.Nodup ->
  dr C D all masks nx K (l1++j::l2) log S M->dr C D all masks nx K (j::(l1++l2)) log S M:=by
 intro l1
 induction l1 with
 | nil=>intro l2 X log S M _ _ _ _ h;exact h
 | cons i l1 ih =>
  intro l2 X log S M hI hXj hl hnd h
  obtain ⟨hij,hXi,oi,hoi,hli,hp,hb1,hb2⟩:=hl i (by simp)
  refine OZ hij hoi hoj hp hli hlj hb1 hb2 hI hXi hXj ?_
  obtain ⟨o,ho,hs,he,h⟩:=h
  rw [hoi] at ho;cases ho
  refine ⟨oi,hoi,hs,he,fun e re=>⟨(h e re).1,?_⟩⟩
  obtain ⟨f1,f2,_,_⟩:=nT hI hli hs re
  rw [zl027] at hnd
  refine ih l2 (fun k=>X k\/k=i) _ _ _ (hI.step f1 f2) (fun hx=>hx.elim hXj fun e=>hij e.symm) (fun k hk=>?_) hnd.2 (h e re).2
  obtain ⟨a,b,c⟩:=hl k (by simp [hk])
  exact ⟨a,fun hx=>hx.elim b fun e=>hnd.1 (e▸hk),c⟩
end
section
variable {E:Fr} {N:Nat} {S M:Lk} {loc:Nat->Value} {fp:Nat->List Nat} {a:Act} {w:World}
theorem OW.inn {F:Nat->Prop} {h:Hp} {R:HV->Value->Prop} {vs rvs fs} (o:OW F h R vs rvs fs) {p:Nat->Prop} (hp:∀v rv id,R v rv->dH v=some id->p id):innL p vs:=by
 induction o with
 | nil=>simp
 | @leaf R v rv r rr fs a b c d e f g _ ih =>
  have ih':=ih hp
  cases v<;>simp [fH] at a b c d e f
  ·simp only [ay,DT];exact ⟨hp _ _ _ g rfl,ih'⟩
  ·simp only [ay,vI];exact ⟨hp _ _ _ g rfl,ih'⟩
  ·simpa using ih'
  ·simp only [ay,vN];exact ⟨hp _ _ _ g rfl,ih'⟩
  ·exact absurd rfl (c _ _ _ _ rfl rfl rfl)
 | int _ ih=>simpa using ih hp
 | bool _ ih=>simpa using ih hp
 | str _ ih=>simpa using ih hp
 | nils _ ih=>simpa using ih hp
 | nilp _ ih=>simpa using ih hp
 | nilf _ ih=>simpa using ih hp
 | dead _ ih=>simpa using ih hp
 | sl0 _ ih=>simpa using ih hp
 | sl a b c d _ _ ih1 ih2=>simp only [ay,LM];exact ⟨ih1 fun _ _ _ h=>h.elim,ih2 hp⟩
 | osl0 _ ih=>simpa using ih hp
 | osl a b c d e f _ _ ih1 ih2=>simp only [ay,sH];exact ⟨ih1 fun _ _ _ h=>h.elim,ih2 hp⟩
 | ptr a b c _ _ ih1 ih2=>simp only [ay,yF];exact ⟨ih1 fun _ _ _ h=>h.elim,ih2 hp⟩
 | optr a _ _ ih1 ih2=>simp only [ay,Gn];exact ⟨ih1 fun _ _ _ h=>h.elim,ih2 hp⟩
 | nilm _ ih=>simpa using ih hp
 | rmap a b c _ _ ih1 ih2=>simp only [ay,yX];exact ⟨ih1 fun _ _ _ h=>h.elim,ih2 hp⟩
 | omap a b _ _ ih1 ih2=>simp only [ay,oV];exact ⟨ih1 fun _ _ _ h=>h.elim,ih2 hp⟩
 | oitr _ _ ih=>simpa using ih hp
 | agg _ _ ih1 ih2=>simp only [ay,nZ];exact ⟨ih1 hp,ih2 hp⟩
 | tup _ _ ih1 ih2=>simp only [ay,sJ];exact ⟨ih1 hp,ih2 hp⟩
 | fn _ _ ih1 ih2=>simp only [ay,wW];exact ⟨ih1 hp,ih2 hp⟩
theorem OW.rn {F:Nat->Prop} {h:Hp} {R R':HV->Value->Prop} {vs rvs fs} (g:Nat->Nat) (o:OW F h R vs rvs fs) (hfs:fs=[]) (hl:∀v rv,R v rv->∃id,dH v=some id) (hr:∀v rv,R v rv->R' (v.rn g) rv):OW F h R' (Po g vs) rvs []:=by
 induction o with
 | nil=>exact .nil
 | @leaf R v rv r rr fs a b c d e f gg _ ih =>
  have ih':=ih hfs hl hr
  obtain ⟨id,hid⟩:=hl _ _ gg
  have h1:=hr _ _ gg
  have:(dH (v.rn g)).isSome=true:=by cases v<;>simp [dH] at hid<;>simp [HV.rn,dH]
  exact (cZ this h1).cons1 ih'
 | int _ ih=>exact .int (ih hfs hl hr)
 | bool _ ih=>exact .bool (ih hfs hl hr)
 | str _ ih=>exact .str (ih hfs hl hr)
 | nils _ ih=>exact .nils (ih hfs hl hr)
 | nilp _ ih=>exact .nilp (ih hfs hl hr)
 | nilf _ ih=>exact .nilf (ih hfs hl hr)
 | dead _ ih=>exact .dead (ih hfs hl hr)
 | sl0 _ ih=>exact .sl0 (ih hfs hl hr)
 | sl a b c d e _ _ ih=>exact .sl a b c d e (ih hfs hl hr)
 | osl0 _ ih=>exact .osl0 (ih hfs hl hr)
 | osl=>simp at hfs
 | ptr a b c d _ _ ih=>exact .ptr a b c d (ih hfs hl hr)
 | optr=>simp at hfs
 | nilm _ ih=>exact .nilm (ih hfs hl hr)
 | rmap a b c d _ _ ih=>exact .rmap a b c d (ih hfs hl hr)
 | omap=>simp at hfs
 | oitr=>simp at hfs
 | agg _ _ ih1 ih2 =>
  obtain ⟨rfl,rfl⟩:_=[]/\_=[]:=by simpa using hfs
  exact .agg (ih1 rfl hl hr) (ih2 rfl hl hr)
 | tup _ _ ih1 ih2 =>
  obtain ⟨rfl,rfl⟩:_=[]/\_=[]:=by simpa using hfs
  exact .tup (ih1 rfl hl hr) (ih2 rfl hl hr)
 | fn _ _ ih1 ih2 =>
  obtain ⟨rfl,rfl⟩:_=[]/\_=[]:=by simpa using hfs
  exact .fn (ih1 rfl hl hr) (ih2 rfl hl hr)
theorem Rel.rename (hr:Rel E N S M loc fp a w) (g:Nat->Nat) (hg:∀x,g (g x)=x) (hN:∀x,x<N->g x<N):Rel E N (fun t=>(S t).rn g) (fun k=>M (g k)) (fun k=>loc (g k)) (fun k=>fp (g k)) a w:=by
 have inj:∀x y,g x=g y->x=y:=fun x y h=>by rw [<- hg x,<- hg y,h]
 have hfz:∀b,dX E fp w b->dX E (fun k=>fp (g k)) w b:=fun b ⟨h1,h2,h3⟩=>⟨h1,h2,fun k=>h3 (g k)⟩
 refine ⟨hr.below,hr.base,hr.size,fun id h=>(hr.tree (g id) h).stable (fun _ _=>rfl) (fun b hb=>⟨hfz b hb,rfl⟩) (fun _ _ h=>h),fun id h=>hr.gone (g id) h,fun id h=>hr.new (g id) ?_,fun id=>hr.nodup (g id),fun i j hij=>hr.apart (g i) (g j) (fun e=>hij (inj _ _ e)),fun id=>hr.fresh (g id),fun t=>?_,hr.defers⟩
 ·rcases dL (g id) N with h'|h'
  ·have:=hN _ h'
   rw [hg] at this
   omega
  ·exact h'
 ·have:=(hr.slots t).rn (R':=RefR N (fun k=>M (g k)) (fun k=>loc (g k)) w.heap) g rfl (fun v rv h=>by obtain ⟨id,h1,_⟩:=h.isRef;exact ⟨id,h1⟩) (by
   intro v rv hv
   cases v<;>(try exact hv.elim)
   ·obtain ⟨a1,a2,a3,a4,a5⟩:=hv
    exact ⟨hN _ a1,a2,a3,by simp only [hg];exact a4,by simp only [hg];exact a5⟩
   ·obtain ⟨a1,a2,a3,a4⟩:=hv
    exact ⟨hN _ a1,a2,a3,by simp only [hg];exact a4⟩
   ·obtain ⟨a1,a2,a3,a4,a5⟩:=hv
    exact ⟨hN _ a1,a2,a3,by simp only [hg];exact a4,by simp only [hg];exact a5⟩)
  exact this.stable (by simp) (fun b hb=>⟨hfz b hb,rfl⟩) (fun _ _ h=>h)
def NV (N0 f m x:Nat):Nat:=if N0<=x/\x<N0+m then x - N0+f else if f<=x/\x<f+m then x - f+N0 else x
theorem O8 {N0 f m:Nat} (h:f+m<=N0) (x:Nat):NV N0 f m (NV N0 f m x)=x:=by
 unfold NV
 by_cases h1:N0<=x/\x<N0+m
 ·rw [if_pos h1,if_neg (by omega),if_pos (by omega)];omega
 ·rw [if_neg h1]
  by_cases h2:f<=x/\x<f+m
  ·rw [if_pos h2,if_pos (by omega)];omega
  ·rw [if_neg h2,if_neg h1,if_neg h2]
theorem QL {N0 f m:Nat} (h:f+m<=N0) (x:Nat) (hx:x<N0+m):NV N0 f m x<N0+m:=by
 unfold NV;split
 ·omega
 ·split<;>omega
theorem Qo {g:Nat->Nat} (hg:∀x,g (g x)=x):∀ (us:List dJ) (A B:Lk),(∀k,A (g k)=B k)->∀k,Lk.upd A us (g k)=Lk.upd B (us.map (Ep g)) k:=by
 intro us
 induction us with
 | nil=>intro A B h k;exact h k
 | cons u us ih =>
  intro A B h k
  cases u with
  | put id t =>
   simp only [iy,Ep,Lk.upd]
   refine ih _ _ (fun k=>?_) k
   by_cases hk:g k=id
   ·have:k=g id:=by rw [<- hk,hg]
    rw [if_pos hk,if_pos this]
   ·have:¬ k=g id:=fun e=>hk (by rw [e,hg])
    rw [if_neg hk,if_neg this]
    exact h k
  | kill id n=>exact ih A B h k
theorem OJ {g:Nat->Nat} (hg:∀x,g (g x)=x) {us:List dJ} (hu:∀x∈fP us,g x=x) (hM:∀k,g k≠k->M k=.dead) (k:Nat):Lk.upd M us (g k)=Lk.upd M us k:=by
 by_cases hk:g k=k
 ·rw [hk]
 ·rw [kZ fun h=>hk (hu k h),kZ fun h=>by have:=hu _ h;rw [hg] at this;exact hk this.symm,hM k hk,hM (g k) (by rw [hg];exact fun e=>hk e.symm)]
end
theorem HT.deep {P:Program} {f:FuncId} {args:List HV} {K:HV->Prop} (h:HT P f args K):HT P f args fun r=>K r/\r.deep=[] :=
 ⟨h.1,fun w rargs F hF hargs=>(h.2 w rargs F hF hargs).mono fun _ _ ⟨rv,res,fs,h1,h2,h3,h4⟩=>⟨rv,res,fs,h1,⟨h2,by
  have:=h3.inn (p:=fun _=>False) (fun _ _ _ h=>h.elim)
  simp only [ay,Gq,and_true] at this
  exact zl039.2 fun x hx=>this x hx⟩,h3,h4⟩⟩
theorem HT.imp {P:Program} {f:FuncId} {args:List HV} {K K':HV->Prop} (h:HT P f args K) (hk:∀r,K r->K' r):HT P f args K' :=
 ⟨h.1,fun w rargs F hF hargs=>(h.2 w rargs F hF hargs).mono fun _ _ ⟨rv,res,fs,h1,h2,h3⟩=>⟨rv,res,fs,h1,hk _ h2,h3⟩⟩
def HT2 (P:Program):CF:=⟨fun f args K=>HT P f args K,fun f args K=>HTM P f args K⟩
theorem HTM.deep {P:Program} {f:FuncId} {args:List HV} {K:HV->Prop} (h:HTM P f args K):HTM P f args fun r=>K r/\r.deep=[] :=
 ⟨h.1,fun w rargs F fa h1 h2 h3 h4=>(h.2 w rargs F fa h1 h2 h3 h4).mono fun e w' ⟨rv,res,outs,fs,a,b,c,d⟩=>⟨rv,res,outs,fs,a,⟨b,by
  have:=c.inn (p:=fun _=>False) (fun _ _ _ h=>h.elim)
  simp only [ay] at this
  exact zl039.2 fun x hx=>this.1 x hx⟩,c,d⟩⟩
section
variable {P:Program} {E:Fr} {N:Nat} {S M:Lk} {loc:Nat->Value} {fp:Nat->List Nat} {a:Act} {w:World} {D:DS} {nx i:Nat}
theorem Qm {g:Nat->Nat} (hg:∀x,g (g x)=x) (hN:∀x,x<N->g x<N) {o:HOper} {us0 uF:List dJ} {v:HV} (hr:Rel E N (fun t=>if o.dst=some t then v else qF S (us0++uF) t) (Lk.upd M (us0++uF)) loc fp a w)
  (hS:∀t,(S t).inn fun x=>g x=x) (hM:∀k,g k≠k->M k=.dead) (hu:∀x∈fP us0,g x=x) (hF:∀u∈uF,∃id t,u=.put id t) :
  ∃N' loc' fp',Rel E N' (jY o (v.rn g,us0++uF.map (Ep g)) S) (sV (v.rn g,us0++uF.map (Ep g)) M) loc' fp' a w:=by
 have h:=hr.rename g hg hN
 refine ⟨N,fun k=>loc (g k),fun k=>fp (g k),?_⟩
 have e1:(fun t=>(if o.dst=some t then v else qF S (us0++uF) t).rn g)=jY o (v.rn g,us0++uF.map (Ep g)) S:=by
  funext t
  unfold jY
  have hF':∀u∈uF.map (Ep g),∃id t,u=.put id t:=fun u hu=>by
   obtain ⟨u',h1,rfl⟩:=zl023.1 hu
   obtain ⟨id,t,rfl⟩:=hF u' h1
   exact ⟨_,_,rfl⟩
  by_cases hd:o.dst=some t
  ·simp only [hd,if_true]
  ·simp only [hd,if_false]
   rw [dG,dG,iU hF,iU hF']
   exact HV.rn_id g _ (Iy hS t)
 have e2:(fun k=>Lk.upd M (us0++uF) (g k))=sV (v.rn g,us0++uF.map (Ep g)) M:=by
  funext k
  unfold sV
  rw [bQ,bQ]
  exact Qo hg uF _ _ (fun k=>OJ hg hu hM k) k
 rw [<- e1,<- e2]
 exact h
theorem Ci {ops:Array Oper} {o:Oper} (ho:ops[i]?=some o) {X:Nat->Prop} (hr:Rel E N S M loc fp a w) (hI:Inv nx X S M) (hX:¬ X i) (hl:lU (aA P E.ok o)=true)
  (hs:dU (HT2 P) D (ops.toList.map (aA P E.ok)) (nx+stride*i) (aA P E.ok o) S M) {Kw:Act->World->Prop} {Q:Exit->Act->World->Prop}
  (hn:∀e a' w',fZ D (ops.toList.map (aA P E.ok)) (nx+stride*i) (aA P E.ok o) S M e->(∃N' loc' fp',Rel E N' (jY (aA P E.ok o) e S) (sV e M) loc' fp' a' w')->Kw a' w'):wpOp P ops Q i Kw a w:=by
 have hgd:(aA P E.ok o).guard=o.guard:=rfl
 have hdst:(aA P E.ok o).dst=o.dst:=rfl
 have bool:∀ {d:Nat} {b:Bool},S d=.bool b->a.tmps[d]?=some (.bool b):=fun {d b} hb=>by
  have h1:=hr.slots d
  rw [hb] at h1
  have h3:=of_bool h1
  cases h4:a.tmps[d]? with
  | none=>rw [iw,h4] at h3;simp [undef] at h3
  | some v=>rw [iw,h4] at h3;simpa using h3
 have hw:∀b,gd (ops.toList.map (aA P E.ok)) (aA P E.ok o) S=some b->Region.wanted o (yielded ops a.tmps)=b:=by
  intro b hb
  unfold gd at hb
  rw [hgd] at hb
  unfold Region.wanted
  cases hg:o.guard with
  | none=>rw [hg] at hb;simpa using hb
  | some jw =>
   obtain ⟨j,want⟩:=jw
   rw [hg] at hb
   simp only [iT,Option.bind_map] at hb
   have hall:((ops.toList[j]?).bind ((fun x=>x.dst) ∘ aA P E.ok))=((ops[j]?).bind (·.dst)):=by rw [kz];rfl
   rw [hall] at hb
   cases hd:(ops[j]?).bind (·.dst) with
   | none=>rw [hd] at hb;simp at hb
   | some d =>
    rw [hd] at hb
    simp only [iq] at hb
    generalize hv:S d=v at hb
    cases v with
    | bool c =>
     simp only at hb
     have hy:yielded ops a.tmps j=some c:=by
      unfold yielded
      rw [hd]
      simp only [Df,bool hv]
     simp only [hy]
     cases c<;>cases want<;>cases b<;>simp_all
    | tup cs =>
     cases cs with
     | cons _ _=>simp at hb
     | nil =>
      simp only [bY] at hb
      subst hb
      have hy:yielded ops a.tmps j=none:=by
       have h1:=hr.slots d
       rw [hv] at h1
       have h3:=F5 h1
       unfold yielded
       rw [hd]
       simp only [Df]
       cases h4:a.tmps[d]? with
       | none=>rfl
       | some v=>rw [iw,h4] at h3;simp at h3;rw [h3];rfl
      simp [hy]
    | _=>simp at hb
 unfold dU at hs
 unfold wpOp
 rw [ho]
 simp only
 cases hgv:gd (ops.toList.map (aA P E.ok)) (aA P E.ok o) S with
 | none=>rw [hgv] at hs;exact hs.elim
 | some b =>
  rw [hgv] at hs
  rw [hw b hgv]
  cases b with
  | false =>
   simp only [Bool.false_eq_true,if_false]
   exact hn (.tup [],[]) _ _ (by unfold fZ;rw [hgv]) ⟨N,loc,fp,hr.putU o.dst⟩
  | true =>
   simp only [if_true]
   simp only at hs
   left
   let N0:=max N (nx+stride*(i+1))
   let f:=nx+stride*i
   have hf0:f+stride<=N0:=by simp only [f,N0,stride];omega
   have hNN:N<=N0:=by simp only [N0];omega
   let g:=NV N0 f stride
   have hg:∀x,g (g x)=x:=O8 hf0
   have hgN:∀x,x<N0+stride->g x<N0+stride:=QL hf0
   have gid:∀x,x<N0->¬ uT nx i x->g x=x:=fun x h1 h2=>by
    simp only [g,NV]
    rw [if_neg (by omega),if_neg (fun h=>h2 ⟨h.1,by simp only [f,stride] at *;omega⟩)]
   have hS:∀t,(S t).inn fun x=>g x=x:=fun t x hx=>by
    have h1:=(hr.slots t).inn (p:=fun x=>x<N) (fun v rv id h hid=>by cases v<;>simp only [dH,bY,reduceCtorEq] at hid<;>subst hid<;>exact h.1)
    simp only [ay] at h1
    exact gid x (kM (h1.1 x hx) hNN) fun hr'=>hX (nP (hI.slots t x hx) hr')
   have hM:∀k,g k≠k->M k=.dead:=fun k hk=>by
    rcases dL k N with h|h
    ·by_cases h2:uT nx i k
     ·cases hd:M k with
      | dead=>rfl
      | _=>exact absurd (nP (hI.alive k (by rw [hd];simp)) h2) hX
     ·exact absurd (gid k (by omega) h2) hk
    ·exact hr.new k h
   have hMi:∀id,(M id).inn fun x=>g x=x:=fun id=>by
    by_cases h:M id=.dead
    ·rw [h];simp
    ·have:=(hr.tree id h).inn (p:=fun x=>g x=x) (fun _ _ _ h=>h.elim)
     simpa using this
   have hvals:innL (fun x=>g x=x) ((aA P E.ok o).op.map (bT S)).vals:=by
    rw [HOp.vals_map]
    intro v hv
    obtain ⟨x,hx,rfl⟩:=zl023.1 hv
    cases x with
    | t i=>exact hS i
    | c v =>
     simp only [lU,aG,zl014] at hl
     have:=hl.2 _ hx
     simp only [qc] at this
     intro y hy
     simp only [bT,this] at hy
     cases hy
   have hlits:innL (fun x=>g x=x) ((aA P E.ok o).op.map (bT S)).lits:=by
    rw [HOp.lits_map,innL_iff]
    simp only [lU,aG,qc] at hl
    rw [hl.1]
    simp
   have hres:∀e,lM D M f e ((aA P E.ok o).op.map (bT S))->fZ D (ops.toList.map (aA P E.ok)) f (aA P E.ok o) S M e:=fun e h=>by unfold fZ;rw [hgv];exact h
   by_cases hd:(o.dst.all fun d=>E.ok d)=true
   case neg =>
    have hop0:(aA P E.ok o).op=.bad:=by simp only [aA,hd];rfl
    rw [hop0] at hs
    exact hs.elim
   have hop0:(aA P E.ok o).op=aC P o:=by simp only [aA,hd,if_true]
   have hdt:∀t,o.dst=some t->E.ok t=true:=fun t ht=>by simpa [ht] using hd
   rw [hop0] at hs hvals hlits hres
   have done:∀ {us0 uF:List dJ} {v:HV} {rv:Value} {w':World} {N1:Nat},N1<=N0+stride->After E N1 S M (us0++uF) v rv a w'->(∀x∈fP us0,g x=x)->(∀u∈uF,∃id t,u=.put id t)->lM D M f (v.rn g,us0++uF.map (Ep g)) ((aC P o).map (bT S))->Kw (a.put o.dst rv) w':=by
    intro us0 uF v rv w' N1 hN1 hA h1 h2 h3
    obtain ⟨loc',fp',h4,h5⟩:=hA
    have h6:=(h4.put o.dst hdt h5).up hN1
    exact hn _ _ _ (hres _ h3) (Qm (o:=aA P E.ok o) hg hgN h6 hS hM h1 h2)
   have plain:(aC P o).isCall=false->(ae M f ((aC P o).map (bT S))).2.2->(∀e,lM D M f e ((aC P o).map (bT S)) <-> e=((ae M f ((aC P o).map (bT S))).1,(ae M f ((aC P o).map (bT S))).2.1))->o.wp P a w Kw Q:=by
    intro hnc hvc hce
    obtain ⟨us0,a1,a2,a3,a4⟩:=zh (L:=M) (D:=aN ((aC P o).map (bT S)).vals) hvals (fun x hx=>hx) hlits hMi
    have ht:∀x∈fP us0,g x=x:=by
     intro x hx
     clear a2 a3 a4
     induction us0 with
     | nil=>cases hx
     | cons u us ih =>
      have ih:=ih (fun u hu=>a1 u (by simp [hu]))
      cases u with
      | put id t =>
       simp only [fP,zl008] at hx
       rcases hx with rfl|hx
       ·exact innL_iff.1 hvals _ (a1 (.put x t) (by simp)).1
       ·exact ih hx
      | kill=>exact ih hx
    have key:∃v uF,(ae M N0 ((aC P o).map (bT S))).1=v/\(ae M N0 ((aC P o).map (bT S))).2.1=us0++uF/\(ae M N0 ((aC P o).map (bT S))).2.2/\(∀u∈uF,∃id t,u=.put id t)/\lM D M f (v.rn g,us0++uF.map (Ep g)) ((aC P o).map (bT S)):=by
     have gN:g N0=f:=by simp only [g,NV,stride];rw [if_pos (by omega)];omega
     rcases a4 with ⟨v,q,h1,h2⟩|⟨mk,T,q,h0,h1,h2⟩
     ·rw [h2] at hvc
      refine ⟨v,[],by rw [h2],by rw [h2];simp,by rw [h2];exact hvc,by simp,(hce _).2 ?_⟩
      rw [h2,HV.rn_id g v h1];simp
     ·rw [h2] at hvc
      refine ⟨mk N0,[.put N0 T],by rw [h2],by rw [h2],by rw [h2];exact hvc,by simp,(hce _).2 ?_⟩
      rw [h2]
      rcases h0 with ⟨sz,n,rfl⟩|rfl|rfl
      ·simp [HV.rn,Ep,gN]
      ·simp [HV.rn,Ep,gN]
      ·simp [HV.rn,Ep,gN]
    obtain ⟨v,uF,k1,k2,k3,k4,k5⟩:=key
    obtain ⟨rv,w',h1,h2⟩:=FW hr hNN o hnc k3
    rw [k1,k2] at h2
    have:=done (by unfold stride;omega) h2 ht k4 k5
    unfold Oper.wp
    rcases h1 with h1|⟨h1,rfl⟩
    ·rw [h1];exact this
    ·rw [h1];exact this
   have callgen:∀ (fn:FuncId) (vs:List HV) (rvs:List Value),(execOp a.eval o).run P w=(callFunc fn rvs.toArray).run P w->OW (dX E fp w) w.heap (RefR N M loc w.heap) vs rvs [] ->
     (HT P fn (bI bn M vs) (D.rel fn (bI bn M vs))/\∀r,D.rel fn (bI bn M vs) r->r.deep=[]->(aI vs || r.noRd)=true/\(unpack f r).2.2<=f+stride) ->
     (∀r,D.rel fn (bI bn M vs) r->r.deep=[]->lM D M f ((unpack f r).1,(unpack f r).2.1) ((aC P o).map (bT S)))->o.wp P a w Kw Q:=by
    intro fn vs rvs hrun hv hC hce
    unfold Oper.wp
    rw [hrun,jT hC.1.1,Oper.upon_enter]
    have hC':=(hC.1.deep).imp (K':=fun r=>(aI vs || r.noRd)=true/\(D.rel fn (bI bn M vs) r/\r.deep=[])) fun r hr'=>⟨(hC.2 r hr'.1 hr'.2).1,hr'⟩
    refine (y5 hr hNN hv hC').mono ?_
    rintro e w' ⟨rv,res,rfl,⟨hK,hdp⟩,_,hA⟩
    obtain ⟨u1,u2,u3,u4,u5⟩:=oM g res N0 f hdp
    have hb:=(hC.2 res hK hdp).2
    obtain ⟨e1,e2⟩:=u3 fun k h1 h2=>by simp only [g,NV];rw [if_pos (by omega)]
    refine done (us0:=[]) (by omega) hA (by simp [fP]) (fun u hu=>by obtain ⟨id,t,rfl,_⟩:=u5 u hu;exact ⟨_,_,rfl⟩) ?_
    have:=hce res hK hdp
    rw [e1,e2] at this
    exact this
   cases hop':aC P o with
   | call fn xs =>
    rw [hop'] at hs
    simp only [HOp.map] at hs
    obtain ⟨c,hc,hcal,rfl⟩:=sK hop'
    have e1:(#[]:Array Value)++c.args.map a.eval++#[]=(c.args.toList.map a.eval).toArray:=by apply qV;simp
    have e2:a.eval (.func fn)=.func (.func fn) #[] #[]:=rfl
    have hrun:(execOp a.eval o).run P w=(callFunc fn (c.args.toList.map a.eval).toArray).run P w:=by
     simp only [execOp,hc,resolve,hcal,e2,Deferred.ofValue,Sem.run_bind,Sem.run_pure,Result.andThen_ok,invoke,e1]
    simp only [ku] at hs
    by_cases hown:D.own fn=true
    ·rw [if_pos hown] at hs
     rw [iG] at hs
     have hs':(ak M (c.args.toList.map fun x=>bT S (dw x))).2.2/\HTM P fn (ak M (c.args.toList.map fun x=>bT S (dw x))).1 (D.rel fn (ak M (c.args.toList.map fun x=>bT S (dw x))).1)/\∀r,D.rel fn (ak M (c.args.toList.map fun x=>bT S (dw x))).1 r->r.deep=[]->(unpack f r).2.2<=f+stride:=hs
     have hvals':innL (fun x=>g x=x) (c.args.toList.map fun x=>bT S (dw x)):=by
      have:=hvals
      rw [hop'] at this
      simp only [HOp.map,HOp.vals,iG] at this
      exact this
     have hce:∀r,D.rel fn (ak M (c.args.toList.map fun x=>bT S (dw x))).1 r->r.deep=[]->lM D M f ((unpack f r).1,(ak M (c.args.toList.map fun x=>bT S (dw x))).2.1++(unpack f r).2.1) ((aC P o).map (bT S)):=fun r h1 h2=>by
      rw [hop']
      simp only [HOp.map,lM]
      rw [if_pos hown,iG]
      exact ⟨r,h1,h2,rfl⟩
     have hv:=hr.vals c.args.toList
     generalize hvs:(c.args.toList.map fun x=>bT S (dw x))=vs at hs' hvals' hce hv
     obtain ⟨_,a2⟩:=mF (D:=aN vs) M vs hvals' (fun x hx=>hx) hMi
     have ht:∀x∈fP (ak M vs).2.1,g x=x:=by
      intro x hx
      generalize (ak M vs).2.1=us0 at a2 hx
      induction us0 with
      | nil=>cases hx
      | cons u us ih =>
       have ih:=ih (fun u hu=>a2 u (by simp [hu]))
       cases u with
       | put id t =>
        simp only [fP,zl008] at hx
        rcases hx with rfl|hx
        ·exact innL_iff.1 hvals' _ (a2 (.put x t) (by simp)).1
        ·exact ih hx
       | kill=>exact ih hx
     unfold Oper.wp
     rw [hrun,jT hs'.2.1.1,Oper.upon_enter]
     refine (yh hr hNN hv hs'.1 (io:=[]) (ids:=[]) rfl List.nodup_nil (HTM.deep hs'.2.1)).mono ?_
     rintro e w' ⟨rv,res,outs,rfl,⟨hK,hdp⟩,hlo,_,hA⟩
     obtain rfl:outs=[]:=fG hlo
     simp only [kills,iF,List.map_nil,List.zip_nil_left,List.append_nil] at hA
     obtain ⟨u1,u2,u3,u4,u5⟩:=oM g res N0 f hdp
     have hb:=hs'.2.2 res hK hdp
     obtain ⟨e1,e2⟩:=u3 fun k h1 h2=>by simp only [g,NV];rw [if_pos (by omega)]
     refine done (us0:=(ak M vs).2.1) (by omega) hA ht (fun u hu=>by obtain ⟨id,t,rfl,_⟩:=u5 u hu;exact ⟨_,_,rfl⟩) ?_
     have:=hce res hK hdp
     rw [e1,e2] at this
     exact this
    ·rw [if_neg hown] at hs
     refine callgen fn (c.args.toList.map fun x=>bT S (dw x)) (c.args.toList.map a.eval) hrun (hr.vals _) (by rw [iG] at hs;exact hs) (fun r h1 h2=>?_)
     rw [hop']
     simp only [HOp.map,lM]
     rw [if_neg hown]
     exact ⟨r,by rw [iG];exact h1,h2,rfl⟩
   | callv x xs =>
    rw [hop'] at hs
    simp only [HOp.map] at hs
    obtain ⟨c,t,hc,hcal,rfl,rfl⟩:=pF hop'
    have hval:=hr.val (.tmp t)
    simp only [dw] at hval
    rw [hop'] at callgen
    simp only [HOp.map] at callgen
    generalize bT S (.t t)=fv at *
    cases fv<;>simp only [ku,ae] at hs<;>(first|exact hs.elim|skip)
    rename_i fn cap
    obtain ⟨rcap,hfe,hcap⟩:=Ae hval
    have hv:=(hr.vals c.args.toList).append hcap
    simp only [List.append_nil] at hv
    refine callgen fn (c.args.toList.map (fun x=>bT S (dw x))++cap) (c.args.toList.map a.eval++rcap) ?_ hv (by rw [iG] at hs;exact hs) (fun r h1 h2=>?_)
    ·have e1:(#[]:Array Value)++c.args.map a.eval++rcap.toArray=(c.args.toList.map a.eval++rcap).toArray:=by apply qV;simp
     simp only [execOp,hc,resolve,hcal,hfe,Deferred.ofValue,Sem.run_bind,Sem.run_pure,Result.andThen_ok,invoke,e1]
    ·exact ⟨r,by rw [iG];exact h1,h2,rfl⟩
   | _ =>
    rw [hop'] at hs
    rw [hop'] at plain
    exact plain rfl hs (fun e=>Iff.rfl)
end
def uk (ms:List Nat):List Edge->Nat
 | []=>0
 | e::r=>(if Region.binds .any e then 2 ^ e.on ||| ms.getD e.on 0 else 0) ||| uk ms r
def mi:List Oper->List Nat->List Nat
 | [],ms=>ms
 | o::r,ms=>mi r (ms++[uk ms o.after.toList])
def bF (ops:Array Oper):List Nat:=mi ops.toList []
theorem xZ:∀ (r:List Oper) (ms:List Nat),∃t,mi r ms=ms++t:=by
 intro r
 induction r with
 | nil=>intro ms;exact ⟨[],by simp [mi]⟩
 | cons o r ih =>
  intro ms
  obtain ⟨t,h⟩:=ih (ms++[uk ms o.after.toList])
  exact ⟨uk ms o.after.toList::t,by rw [mi,h];simp⟩
theorem Ah:∀ (r:List Oper) (ms:List Nat) (i:Nat) (o:Oper),r[i]?=some o->∃ms',(∃t,mi r ms=ms'++t)/\ms'.length=ms.length+i/\(mi r ms).getD (ms.length+i) 0=uk ms' o.after.toList:=by
 intro r
 induction r with
 | nil=>intro ms i o h;simp at h
 | cons q r ih =>
  intro ms i o h
  cases i with
  | zero =>
   simp at h
   subst h
   obtain ⟨t,ht⟩:=xZ r (ms++[uk ms q.after.toList])
   refine ⟨ms,xZ _ _,rfl,?_⟩
   rw [mi,ht]
   simp [List.getD]
  | succ i =>
   simp only [List.getElem?_cons_succ] at h
   obtain ⟨ms',h1,h2,h3⟩:=ih (ms++[uk ms q.after.toList]) i o h
   refine ⟨ms',h1,by rw [h2];simp;omega,?_⟩
   rw [mi,<- h3]
   congr 1
   simp;omega
theorem CU (ms:List Nat):∀ (l:List Edge) (k:Nat),(uk ms l).testBit k=true <-> ∃e∈l,Region.binds .any e=true/\(e.on=k\/(ms.getD e.on 0).testBit k=true):=by
 intro l
 induction l with
 | nil=>intro k;simp [uk]
 | cons e r ih =>
  intro k
  simp only [uk,Nat.testBit_or,uy,ih,zl008,exists_eq_or_imp]
  cases hb:Region.binds .any e with
  | false=>simp
  | true=>simp [Nat.testBit_or,Nat.testBit_two_pow]
theorem xg {ops:Array Oper} {i:Nat} {o:Oper} (ho:ops[i]?=some o) {e:Edge} (he:e∈o.after) (hb:Region.binds .any e=true):nN (bF ops) e.on i=true:=by
 obtain ⟨ms',_,_,h⟩:=Ah ops.toList [] i o (by simpa using ho)
 unfold nN bF
 simp only [List.length_nil,Nat.zero_add] at h
 rw [h,CU]
 exact ⟨e,by simpa using he,hb,.inl rfl⟩
theorem jk {ops:Array Oper} {i k:Nat} {o:Oper} (ho:ops[i]?=some o) (h:nN (bF ops) k i=true):∃e∈o.after,Region.binds .any e=true/\(e.on=k\/nN (bF ops) k e.on=true):=by
 obtain ⟨ms',⟨t,h1⟩,h2,h3⟩:=Ah ops.toList [] i o (by simpa using ho)
 unfold nN bF at *
 simp only [List.length_nil,Nat.zero_add] at h3 h2
 rw [h3,CU] at h
 obtain ⟨e,he,hb,h⟩:=h
 refine ⟨e,by simpa using he,hb,h.imp id fun h=>?_⟩
 rw [h1]
 have:(ms'.getD e.on 0)=((ms'++t).getD e.on 0):=by
  rcases dL e.on ms'.length with hl|hl
  ·simp [List.getD,FU hl]
  ·simp [List.getD,jb hl] at h
 rw [<- this];exact h
section
variable {E:Fr} {N:Nat} {S M:Lk} {loc:Nat->Value} {fp:Nat->List Nat} {a:Act} {w:World}
theorem OW.lower {F:Nat->Prop} {h:Hp} {R R':HV->Value->Prop} {vs rvs fs} (o:OW F h R vs rvs fs) {p:Nat->Prop} (hfs:fs=[]) (hp:innL p vs) (hl:∀v rv,R v rv->∃id,dH v=some id) (hr:∀v rv id,R v rv->dH v=some id->p id->R' v rv):OW F h R' vs rvs []:=by
 induction o with
 | nil=>exact .nil
 | @leaf R v rv r rr fs a b c d e f gg _ ih =>
  simp only [ay] at hp
  have ih':=ih hfs hp.2 hl hr
  obtain ⟨id,hid⟩:=hl _ _ gg
  have:(dH v).isSome=true:=by rw [hid];rfl
  refine (cZ this (hr _ _ id gg hid ?_)).cons1 ih'
  have:=hp.1
  cases v<;>simp [dH] at hid<;>subst hid<;>simpa using this
 | int _ ih=>simp only [ay] at hp;exact .int (ih hfs hp.2 hl hr)
 | bool _ ih=>simp only [ay] at hp;exact .bool (ih hfs hp.2 hl hr)
 | str _ ih=>simp only [ay] at hp;exact .str (ih hfs hp.2 hl hr)
 | nils _ ih=>simp only [ay] at hp;exact .nils (ih hfs hp.2 hl hr)
 | nilp _ ih=>simp only [ay] at hp;exact .nilp (ih hfs hp.2 hl hr)
 | nilf _ ih=>simp only [ay] at hp;exact .nilf (ih hfs hp.2 hl hr)
 | dead _ ih=>simp only [ay] at hp;exact .dead (ih hfs hp.2 hl hr)
 | sl0 _ ih=>simp only [ay] at hp;exact .sl0 (ih hfs hp.2 hl hr)
 | sl a b c d e _ _ ih=>simp only [ay] at hp;exact .sl a b c d e (ih hfs hp.2 hl hr)
 | osl0 _ ih=>simp only [ay] at hp;exact .osl0 (ih hfs hp.2 hl hr)
 | osl=>simp at hfs
 | ptr a b c d _ _ ih=>simp only [ay] at hp;exact .ptr a b c d (ih hfs hp.2 hl hr)
 | optr=>simp at hfs
 | nilm _ ih=>simp only [ay] at hp;exact .nilm (ih hfs hp.2 hl hr)
 | rmap a b c d _ _ ih=>simp only [ay] at hp;exact .rmap a b c d (ih hfs hp.2 hl hr)
 | omap=>simp at hfs
 | oitr=>simp at hfs
 | agg _ _ ih1 ih2 =>
  simp only [ay,nZ] at hp
  obtain ⟨rfl,rfl⟩:_=[]/\_=[]:=by simpa using hfs
  exact .agg (ih1 rfl hp.1 hl hr) (ih2 rfl hp.2 hl hr)
 | tup _ _ ih1 ih2 =>
  simp only [ay,sJ] at hp
  obtain ⟨rfl,rfl⟩:_=[]/\_=[]:=by simpa using hfs
  exact .tup (ih1 rfl hp.1 hl hr) (ih2 rfl hp.2 hl hr)
 | fn _ _ ih1 ih2 =>
  simp only [ay,wW] at hp
  obtain ⟨rfl,rfl⟩:_=[]/\_=[]:=by simpa using hfs
  exact .fn (ih1 rfl hp.1 hl hr) (ih2 rfl hp.2 hl hr)
theorem Rel.lower (hr:Rel E N S M loc fp a w) {N':Nat} (hS:∀t,(S t).inn (·<N')) (hM:∀id,M id≠.dead->id<N'):Rel E N' S M loc fp a w :=
 ⟨hr.below,hr.base,hr.size,hr.tree,hr.gone,fun id h=>by
  cases hd:M id with
  | dead=>rfl
  | _=>have:=hM id (by rw [hd];simp);omega,hr.nodup,hr.apart,hr.fresh,fun t=>(hr.slots t).lower (p:=(·<N')) rfl (by simpa using hS t) (fun v rv h=>by obtain ⟨id,h1,_⟩:=h.isRef;exact ⟨id,h1⟩) (fun v rv id h hid hp=>by
   cases v<;>simp only [dH,bY,reduceCtorEq] at hid<;>subst hid
   ·exact ⟨hp,h.2⟩
   ·exact ⟨hp,h.2⟩
   ·exact ⟨hp,h.2⟩),hr.defers⟩
theorem Rel.drew (hr:Rel E N S M loc fp a w) (n:Nat):Rel E N S M loc fp a { w with drawn:=n }:=by
 have hb:=hr.below
 exact ⟨⟨hb.os,hb.tape,hb.output,hb.size,hb.block⟩,hr.base,hr.size,hr.tree,hr.gone,hr.new,hr.nodup,hr.apart,hr.fresh,hr.slots,hr.defers⟩
theorem Rel.inv (hr:Rel E N S M loc fp a w):Inv N (fun _=>False) S M:=by
 refine ⟨fun t x hx=>.inl ?_,fun id x hx=>?_,fun id hid=>.inl ?_⟩
 ·have h1:=(hr.slots t).inn (p:=fun x=>x<N) (fun v rv id h hid=>by cases v<;>simp only [dH,bY,reduceCtorEq] at hid<;>subst hid<;>exact h.1)
  simp only [ay] at h1
  exact h1.1 x hx
 ·by_cases h:M id=.dead
  ·rw [h] at hx;cases hx
  ·have:=(hr.tree id h).inn (p:=fun _=>False) (fun _ _ _ h=>h.elim)
   simp only [ay] at this
   exact (this.1 x hx).elim
 ·rcases dL id N with h|h
  ·exact h
  ·exact absurd (hr.new id h) hid
end
section
variable {P:Program} {E:Fr} {ops:Array Oper} {D:DS} {nx:Nat} {K:Lk->Lk->Prop} {Q:Exit->Act->World->Prop}
theorem jm {masks:List Nat} {all:List HOper} (h:kU masks all=true) {i:Nat} {o:HOper} (ho:all[i]?=some o):masks.getD i 0<2 ^ i/\lU o=true/\∀k,k<i->∀q,all[k]?=some q->nN masks k i=false->Aj all q o=true:=by
 have hlt:=(zl030.1 ho).1
 simp only [kU,zl014,zl034] at h
 have:=h i hlt
 rw [ho] at this
 simp only [NU,aG,decide_eq_true_eq,zl014,zl034,uy] at this
 refine ⟨this.1.1,this.1.2,fun k hk q hq hb=>?_⟩
 rcases this.2 k hk with h|h
 ·rw [hb] at h;cases h
 ·rw [hq] at h;exact h
theorem JD {all:List HOper} (hall:all=ops.toList.map (aA P E.ok)) (hst:kU (bF ops) all=true) (hQ:∀X S M N loc fp a w,Inv nx X S M->(∀k,X k->k<ops.size)->Rel E N S M loc fp a w->K S M->Q .normal a w) :
  ∀ (fuel:Nat) (listed:Array Bool) (rem:List Nat) (log:pU) (S M:Lk) (N:Nat) (loc:Nat->Value) (fp:Nat->List Nat) (a:Act) (w:World),listed.size=ops.size->rem=(List.range ops.size).filter (fun i=>listed.getD i true==false)->rem.length<=fuel ->
   (∀i o,ops[i]?=some o->listed.getD i false=true->∀e∈o.after,Region.binds .any e=true->listed.getD e.on false=true) ->
   dr (HT2 P) D all (bF ops) nx K rem log S M->Inv nx (fun k=>listed.getD k false=true) S M->Rel E N S M loc fp a w->wpAny P .any ops Q fuel listed a w:=by
 have atH:∀i o,ops[i]?=some o->all[i]?=some (aA P E.ok o):=fun i o h=>by rw [hall,iT,kz,h];rfl
 intro fuel
 induction fuel with
 | zero =>
  intro listed rem log S M N loc fp a w hsz hrem hfu hcl hdr hI hr
  have hnil:rem=[]:=fG (by omega)
  subst hnil
  refine ⟨?_,hQ _ S M N loc fp a w hI (fun k hk=>?_) hr hdr⟩
  ·refine zl039.2 fun i hi=>?_
   obtain ⟨h1,o,ho,_⟩:=mem_ready.1 hi
   have:i∈(List.range ops.size).filter (fun i=>listed.getD i true==false):=by
    rw [zl094,zl034]
    exact ⟨(zl022.1 ho).1,by simpa using h1⟩
   rw [<- hrem] at this;cases this
  ·rcases dL k listed.size with h|h
   ·omega
   ·simp [uj h] at hk
 | succ fuel ih =>
  intro listed rem log S M N loc fp a w hsz hrem hfu hcl hdr hI hr
  have mem:∀i,i∈rem <-> i<ops.size/\listed.getD i true=false:=fun i=>by rw [hrem,zl094,zl034];simp
  have sorted:rem.Pairwise (·<·):=by rw [hrem];exact List.pairwise_lt_range.filter _
  have lst:∀i,i<ops.size->listed.getD i true≠false->listed.getD i false=true:=fun i hi h=>by
   have hi':i<listed.size:=by omega
   simp only [iw,jv hi',gV] at h ⊢
   simpa using h
  have lst':∀i,listed.getD i false=true->listed.getD i true≠false:=fun i h=>by
   have hi':i<listed.size:=by
    rcases dL i listed.size with h'|h'
    ·exact h'
    ·simp [uj h'] at h
   simp only [iw,jv hi',gV] at h ⊢
   simp [h]
  have opAt:∀i,i<ops.size->∃o,ops[i]?=some o:=fun i hi=>⟨ops[i],jv hi⟩
  have onlt:∀i o e,ops[i]?=some o->e∈o.after->Region.binds .any e=true->e.on<i:=fun i o e ho he hb=>by
   have h1:=(jm hst (atH i o ho)).1
   have h2:=xg ho he hb
   unfold nN at h2
   rcases dL e.on i with h|h
   ·exact h
   ·rw [BO (kM h1 (CV (by omega) h))] at h2;cases h2
  have closed:∀i,∀k,nN (bF ops) k i=true->i<ops.size->listed.getD i false=true->listed.getD k false=true:=by
   intro i
   induction i using Nat.strongRecOn with
   | _ i ihi =>
    intro k hk hi hl
    obtain ⟨o,ho⟩:=opAt i hi
    obtain ⟨e,he,hb,h⟩:=jk ho hk
    have hle:=hcl i o ho hl e he hb
    rcases h with rfl|h
    ·exact hle
    ·have:=onlt i o e ho he hb
     exact ihi e.on this k h (by omega) hle
  refine ⟨fun h0=>?_,fun i hi=>?_⟩
  ·cases hrm:rem with
   | nil =>
    rw [hrm] at hdr
    refine hQ _ S M N loc fp a w hI (fun k hk=>?_) hr hdr
    rcases dL k listed.size with h|h
    ·omega
    ·simp [uj h] at hk
   | cons i r =>
    exfalso
    have him:i∈rem:=by rw [hrm];simp
    obtain ⟨hi,hun⟩:=(mem i).1 him
    obtain ⟨o,ho⟩:=opAt i hi
    have:i∈Region.ready .any ops listed:=mem_ready.2 ⟨hun,o,ho,fun e he hb=>by
     have h1:=onlt i o e ho he hb
     by_cases h2:listed.getD e.on true=false
     ·have h3:e.on∈rem:=(mem e.on).2 ⟨by omega,h2⟩
      rw [hrm] at h3 sorted
      rcases zl008.1 h3 with h4|h4
      ·omega
      ·have:=(zl072.1 sorted).1 e.on h4;omega
     ·exact lst e.on (by omega) h2⟩
    rw [h0] at this;cases this
  ·obtain ⟨hun,o,ho,haft⟩:=mem_ready.1 hi
   have hio:i<ops.size:=(zl022.1 ho).1
   have him:i∈rem:=(mem i).2 ⟨hio,hun⟩
   obtain ⟨l1,l2,hsplit⟩:=List.append_of_mem him
   have hnd:rem.Nodup:=sorted.imp fun h=>Nat.ne_of_lt h
   obtain ⟨hlt,hlit,hpair⟩:=jm hst (atH i o ho)
   have hXi:¬ listed.getD i false=true:=fun h=>lst' i h hun
   rw [hsplit] at hdr sorted hnd
   have hfr:=FY (atH i o ho) hlit l1 l2 _ log S M hI hXi (fun k hk=>by
    have hkm:k∈rem:=by rw [hsplit];simp [hk]
    obtain ⟨hk1,hk2⟩:=(mem k).1 hkm
    have hki:k<i:=(List.pairwise_append.1 sorted).2.2 k hk i (by simp)
    obtain ⟨q,hq⟩:=opAt k hk1
    obtain ⟨hlt',hlit',_⟩:=jm hst (atH k q hq)
    have hXk:¬ listed.getD k false=true:=fun h=>lst' k h hk2
    have b1:nN (bF ops) k i=false:=by
     cases hb:nN (bF ops) k i with
     | false=>rfl
     | true =>
      exfalso
      obtain ⟨e,he,hbb,h⟩:=jk ho hb
      have hle:=haft e he hbb
      rcases h with rfl|h
      ·exact hXk hle
      ·have:=onlt i o e ho he hbb
       exact hXk (closed e.on k h (by omega) hle)
    refine ⟨by omega,hXk,_,atH k q hq,hlit',hpair k hki _ (atH k q hq) b1,b1,?_⟩
    unfold nN
    exact BO (kM hlt' (CV (by omega) (Nat.le_of_lt hki)))) (zl007.1 hnd).1 hdr
   obtain ⟨o',ho',hs,_,hnext⟩:=hfr
   rw [atH i o ho] at ho';cases ho'
   subst hall
   refine Ci ho hr hI hXi hlit hs fun e a' w' hres ⟨N',loc',fp',hr'⟩=>?_
   obtain ⟨f1,f2,_,_⟩:=nT hI hlit hs hres
   have hI':=hI.step (o:=aA P E.ok o) f1 f2
   have hset:∀k,(listed.setIfInBounds i true).getD k false=true <-> (listed.getD k false=true\/k=i):=fun k=>by
    by_cases hk:k=i
    ·subst hk;simp [hsz,hio]
    ·rw [getD_set_ne false (fun h=>hk h.symm)];simp [hk]
   refine ih (listed.setIfInBounds i true) (l1++l2) _ _ _ N' loc' fp' a' w' (by simpa using hsz) ?_ ?_ ?_ (hnext e hres).2 ⟨fun t=>HV.inn_mono (hI'.slots t) fun x hx=>jD (fun k hk=>(hset k).2 hk) hx,fun id=>HV.inn_mono (hI'.trees id) fun x hx=>jD (fun k hk=>(hset k).2 hk) hx,fun id h=>jD (fun k hk=>(hset k).2 hk) (hI'.alive id h)⟩ hr'
   ·have e1:(List.range ops.size).filter (fun k=>(listed.setIfInBounds i true).getD k true==false)=((List.range ops.size).filter (fun k=>listed.getD k true==false)).filter (fun k=>k != i):=by
     rw [List.filter_filter]
     refine List.filter_congr fun k hk=>?_
     by_cases hki:k=i
     ·subst hki
      have:k<listed.size:=by omega
      simp [this]
     ·rw [getD_set_ne true (fun h=>hki h.symm)];simp [hki]
    rw [e1,<- hrem,hsplit]
    rw [zl007] at hnd
    obtain ⟨n1,n2,n3⟩:=hnd
    rw [zl027] at n2
    rw [List.filter_append,List.filter_cons_of_neg (by simp),zl056.2,zl056.2]
    ·intro k hk;simp;exact fun e=>n2.1 (e▸hk)
    ·intro k hk;simp;exact fun e=>n3 k hk i (by simp) e
   ·rw [hsplit] at hfu;simp at hfu ⊢;omega
   ·intro k q hq hl e' he' hb'
    rcases (hset k).1 hl with h|rfl
    ·exact (hset _).2 (.inl (hcl k q hq h e' he' hb'))
    ·rw [ho] at hq;cases hq
     exact (hset _).2 (.inl (haft e' he' hb'))
theorem CJ {all:List HOper} (hall:all=ops.toList.map (aA P E.ok)) (hst:kU (bF ops) all=true) (m n:Nat) (hn:n<=ops.size) (hlast:∀i,n<=i->i<ops.size->∀k,m<=k->k<i->nN (bF ops) k i=true)
  (hQ:∀fuel (listed:Array Bool) X S M N loc fp a w,ops.size - n<=fuel->listed.size=ops.size->(∀k,k<n->listed.getD k false=true)->(∀k,n<=k->k<ops.size->listed.getD k true=false)->Inv nx X S M->(∀k,X k->k<n)->Rel E N S M loc fp a w->K S M->wpAny P .any ops Q fuel listed a w) :
  ∀ (fuel:Nat) (listed:Array Bool) (rem:List Nat) (log:pU) (S M:Lk) (N:Nat) (loc:Nat->Value) (fp:Nat->List Nat) (a:Act) (w:World),listed.size=ops.size->rem=(List.range n).filter (fun i=>listed.getD i true==false)->(∀k,n<=k->k<ops.size->listed.getD k true=false)->rem.length+(ops.size - n)<=fuel->(∀k,k<m->listed.getD k true≠false) ->
   (∀i o,ops[i]?=some o->listed.getD i false=true->∀e∈o.after,Region.binds .any e=true->listed.getD e.on false=true) ->
   dr (HT2 P) D all (bF ops) nx K rem log S M->Inv nx (fun k=>listed.getD k false=true) S M->Rel E N S M loc fp a w->wpAny P .any ops Q fuel listed a w:=by
 have atH:∀i o,ops[i]?=some o->all[i]?=some (aA P E.ok o):=fun i o h=>by rw [hall,iT,kz,h];rfl
 intro fuel
 induction fuel with
 | zero =>
  intro listed rem log S M N loc fp a w hsz hrem hsuf hfu hlm hcl hdr hI hr
  have hnil:rem=[]:=fG (by omega)
  subst hnil
  have hall':∀k,k<n->listed.getD k false=true:=fun k hk=>by
   have hk':k<listed.size:=by omega
   have:¬ k∈(List.range n).filter (fun i=>listed.getD i true==false):=by rw [<- hrem];simp
   rw [zl094,zl034] at this
   simp only [iw,jv hk',gV] at this ⊢
   simpa [hk] using this
  refine hQ 0 listed _ S M N loc fp a w (by omega) hsz hall' hsuf hI (fun k hk=>?_) hr hdr
  rcases dL k n with h|h
  ·exact h
  ·exfalso
   have hk':k<listed.size:=by
    rcases dL k listed.size with h'|h'
    ·exact h'
    ·simp [uj h'] at hk
   have:=hsuf k h (by omega)
   simp only [iw,jv hk',gV] at this hk
   rw [this] at hk;cases hk
 | succ fuel ih =>
  intro listed rem log S M N loc fp a w hsz hrem hsuf hfu hlm hcl hdr hI hr
  have mem:∀i,i∈rem <-> i<n/\listed.getD i true=false:=fun i=>by rw [hrem,zl094,zl034];simp
  have sorted:rem.Pairwise (·<·):=by rw [hrem];exact List.pairwise_lt_range.filter _
  have lst:∀i,i<ops.size->listed.getD i true≠false->listed.getD i false=true:=fun i hi h=>by
   have hi':i<listed.size:=by omega
   simp only [iw,jv hi',gV] at h ⊢
   simpa using h
  have lst':∀i,listed.getD i false=true->listed.getD i true≠false:=fun i h=>by
   have hi':i<listed.size:=by
    rcases dL i listed.size with h'|h'
    ·exact h'
    ·simp [uj h'] at h
   simp only [iw,jv hi',gV] at h ⊢
   simp [h]
  have opAt:∀i,i<ops.size->∃o,ops[i]?=some o:=fun i hi=>⟨ops[i],jv hi⟩
  have onlt:∀i o e,ops[i]?=some o->e∈o.after->Region.binds .any e=true->e.on<i:=fun i o e ho he hb=>by
   have h1:=(jm hst (atH i o ho)).1
   have h2:=xg ho he hb
   unfold nN at h2
   rcases dL e.on i with h|h
   ·exact h
   ·rw [BO (kM h1 (CV (by omega) h))] at h2;cases h2
  have closed:∀i,∀k,nN (bF ops) k i=true->i<ops.size->listed.getD i false=true->listed.getD k false=true:=by
   intro i
   induction i using Nat.strongRecOn with
   | _ i ihi =>
    intro k hk hi hl
    obtain ⟨o,ho⟩:=opAt i hi
    obtain ⟨e,he,hb,h⟩:=jk ho hk
    have hle:=hcl i o ho hl e he hb
    rcases h with rfl|h
    ·exact hle
    ·have:=onlt i o e ho he hb
     exact ihi e.on this k h (by omega) hle
  by_cases hrn:rem=[]
  ·subst hrn
   refine hQ (fuel+1) listed _ S M N loc fp a w (by simpa using hfu) hsz (fun k hk=>?_) hsuf hI (fun k hk=>?_) hr hdr
   ·exact lst k (by omega) fun h=>by have:=(mem k).2 ⟨hk,h⟩;cases this
   ·rcases dL k n with h|h
    ·exact h
    ·exfalso
     have hk':k<listed.size:=by
      rcases dL k listed.size with h'|h'
      ·exact h'
      ·simp [uj h'] at hk
     exact lst' k hk (hsuf k h (by omega))
  have hin:∀i,i∈Region.ready .any ops listed->i<n:=fun i hi=>by
   obtain ⟨hun,o,ho,haft⟩:=mem_ready.1 hi
   have hio:i<ops.size:=(zl022.1 ho).1
   rcases dL i n with h|h
   ·exact h
   ·exfalso
    obtain ⟨k,hk⟩:=List.exists_mem_of_ne_nil rem hrn
    obtain ⟨hk1,hk2⟩:=(mem k).1 hk
    have hXk:¬ listed.getD k false=true:=fun h=>lst' k h hk2
    obtain ⟨e,he,hbb,h3⟩:=jk ho (hlast i h hio k (vX fun hkm=>hlm k hkm hk2) (by omega))
    have hle:=haft e he hbb
    rcases h3 with rfl|h3
    ·exact hXk hle
    ·have:=onlt i o e ho he hbb
     exact hXk (closed e.on k h3 (by omega) hle)
  refine ⟨fun h0=>?_,fun i hi=>?_⟩
  ·exfalso
   cases hrm:rem with
   | nil=>exact hrn hrm
   | cons i r =>
    have him:i∈rem:=by rw [hrm];simp
    obtain ⟨hi,hun⟩:=(mem i).1 him
    obtain ⟨o,ho⟩:=opAt i (by omega)
    have:i∈Region.ready .any ops listed:=mem_ready.2 ⟨hun,o,ho,fun e he hb=>by
     have h1:=onlt i o e ho he hb
     by_cases h2:listed.getD e.on true=false
     ·have h3:e.on∈rem:=(mem e.on).2 ⟨by omega,h2⟩
      rw [hrm] at h3 sorted
      rcases zl008.1 h3 with h4|h4
      ·omega
      ·have:=(zl072.1 sorted).1 e.on h4;omega
     ·exact lst e.on (by omega) h2⟩
    rw [h0] at this;cases this
  ·have hin':=hin i hi
   obtain ⟨hun,o,ho,haft⟩:=mem_ready.1 hi
   have hio:i<ops.size:=(zl022.1 ho).1
   have him:i∈rem:=(mem i).2 ⟨hin',hun⟩
   obtain ⟨l1,l2,hsplit⟩:=List.append_of_mem him
   have hnd:rem.Nodup:=sorted.imp fun h=>Nat.ne_of_lt h
   obtain ⟨hlt,hlit,hpair⟩:=jm hst (atH i o ho)
   have hXi:¬ listed.getD i false=true:=fun h=>lst' i h hun
   rw [hsplit] at hdr sorted hnd
   have hfr:=FY (atH i o ho) hlit l1 l2 _ log S M hI hXi (fun k hk=>by
    have hkm:k∈rem:=by rw [hsplit];simp [hk]
    obtain ⟨hk1,hk2⟩:=(mem k).1 hkm
    have hki:k<i:=(List.pairwise_append.1 sorted).2.2 k hk i (by simp)
    obtain ⟨q,hq⟩:=opAt k (by omega)
    obtain ⟨hlt',hlit',_⟩:=jm hst (atH k q hq)
    have hXk:¬ listed.getD k false=true:=fun h=>lst' k h hk2
    have b1:nN (bF ops) k i=false:=by
     cases hb:nN (bF ops) k i with
     | false=>rfl
     | true =>
      exfalso
      obtain ⟨e,he,hbb,h⟩:=jk ho hb
      have hle:=haft e he hbb
      rcases h with rfl|h
      ·exact hXk hle
      ·have:=onlt i o e ho he hbb
       exact hXk (closed e.on k h (by omega) hle)
    refine ⟨by omega,hXk,_,atH k q hq,hlit',hpair k hki _ (atH k q hq) b1,b1,?_⟩
    unfold nN
    exact BO (kM hlt' (CV (by omega) (Nat.le_of_lt hki)))) (zl007.1 hnd).1 hdr
   obtain ⟨o',ho',hs,_,hnext⟩:=hfr
   rw [atH i o ho] at ho';cases ho'
   subst hall
   refine Ci ho hr hI hXi hlit hs fun e a' w' hres ⟨N',loc',fp',hr'⟩=>?_
   obtain ⟨f1,f2,_,_⟩:=nT hI hlit hs hres
   have hI':=hI.step (o:=aA P E.ok o) f1 f2
   have hset:∀k,(listed.setIfInBounds i true).getD k false=true <-> (listed.getD k false=true\/k=i):=fun k=>by
    by_cases hk:k=i
    ·subst hk;simp [hsz,hio]
    ·rw [getD_set_ne false (fun h=>hk h.symm)];simp [hk]
   refine ih (listed.setIfInBounds i true) (l1++l2) _ _ _ N' loc' fp' a' w' (by simpa using hsz) ?_ ?_ ?_ (fun k hk h=>?_) ?_ (hnext e hres).2 ⟨fun t=>HV.inn_mono (hI'.slots t) fun x hx=>jD (fun k hk=>(hset k).2 hk) hx,fun id=>HV.inn_mono (hI'.trees id) fun x hx=>jD (fun k hk=>(hset k).2 hk) hx,fun id h=>jD (fun k hk=>(hset k).2 hk) (hI'.alive id h)⟩ hr'
   ·have e1:(List.range n).filter (fun k=>(listed.setIfInBounds i true).getD k true==false)=((List.range n).filter (fun k=>listed.getD k true==false)).filter (fun k=>k != i):=by
     rw [List.filter_filter]
     refine List.filter_congr fun k hk=>?_
     rw [zl034] at hk
     by_cases hki:k=i
     ·subst hki
      have:k<listed.size:=by omega
      simp [this]
     ·rw [getD_set_ne true (fun h=>hki h.symm)];simp [hki]
    rw [e1,<- hrem,hsplit]
    rw [zl007] at hnd
    obtain ⟨n1,n2,n3⟩:=hnd
    rw [zl027] at n2
    rw [List.filter_append,List.filter_cons_of_neg (by simp),zl056.2,zl056.2]
    ·intro k hk;simp;exact fun e=>n2.1 (e▸hk)
    ·intro k hk;simp;exact fun e=>n3 k hk i (by simp) e
   ·intro k hk1 hk2
    rw [getD_set_ne true (by omega)];exact hsuf k hk1 hk2
   ·rw [hsplit] at hfu;simp at hfu ⊢;omega
   ·by_cases hki:k=i
    ·subst hki
     have:k<listed.size:=by omega
     simp [this] at h
    ·rw [getD_set_ne true (fun h=>hki h.symm)] at h;exact hlm k hk h
   ·intro k q hq hl e' he' hb'
    rcases (hset k).1 hl with h|rfl
    ·exact (hset _).2 (.inl (hcl k q hq h e' he' hb'))
    ·rw [ho] at hq;cases hq
     exact (hset _).2 (.inl (haft e' he' hb'))
end
def HOp.isBad {α:Type}:HOp α->Bool|.bad=>true|_=>false
theorem mem_slotsOf {l:List HX} {t:Nat}:t∈slotsOf l <-> HX.t t∈l:=by
 induction l with
 | nil=>simp [slotsOf]
 | cons x r ih=>cases x<;>simp [slotsOf,ih]
theorem qP {t:Tmp}:dw (.tmp t)=.t t:=rfl
theorem Jk {y:Operand} {x:Tmp} (h:dw y=.t x):y=.tmp x:=by
 cases y<;>simp [dw] at h ⊢
 exact h
theorem mapM_mem {α β:Type} {f:α->Option β}:∀ {l:List α} {r:List β},l.mapM f=some r->∀a∈l,∃b∈r,f a=some b:=by
 intro l
 induction l with
 | nil=>intro r _ a ha;cases ha
 | cons x l ih =>
  intro r h a ha
  rw [List.mapM_cons] at h
  cases hx:f x with
  | none=>rw [hx] at h;cases h
  | some b =>
   rw [hx] at h
   cases hl:l.mapM f with
   | none=>rw [hl] at h;cases h
   | some r' =>
    rw [hl] at h
    cases h
    rcases zl008.1 ha with rfl|ha
    ·exact ⟨b,by simp,hx⟩
    ·obtain ⟨c,h1,h2⟩:=ih hl a ha
     exact ⟨c,by simp [h1],h2⟩
theorem MO {ne:Bool} {x y:HX} (h:(yl ne x y).isBad=false):yl ne x y=.isn ne x/\∀t,y≠.t t:=by
 unfold yl at h ⊢
 split at h
 ·exact ⟨rfl,fun t h=>by cases h⟩
 ·cases h
theorem KX {ne:Bool} {x y:HX} (h:(qx ne x y).isBad=false):qx ne x y=.mnil ne x/\∀t,y≠.t t:=by
 unfold qx at h ⊢
 split at h
 ·exact ⟨rfl,fun t h=>by cases h⟩
 ·cases h
theorem NH {P:Program} {o:Oper} {t:Tmp} (h:(aC P o).isBad=false) (ht:Operand.tmp t∈o.op.operands):HX.t t∈(aC P o).vals:=by
 obtain ⟨dst,op,type,pos,after,guard⟩:=o
 revert h ht
 unfold aC
 simp only
 repeat' split
 all_goals (intro h ht)
 all_goals (try (cases h;done))
 all_goals (simp only [Op.operands] at ht)
 all_goals (try (obtain ⟨e,hy⟩:=MO h;rw [e];simp at ht;rcases ht with ht|ht<;>subst ht<;>(first|(simp [HOp.vals,qP];done)|exact absurd rfl (hy _))))
 all_goals (try (obtain ⟨e,hy⟩:=KX h;rw [e];simp at ht;rcases ht with ht|ht<;>subst ht<;>(first|(simp [HOp.vals,qP];done)|exact absurd rfl (hy _))))
 all_goals (try (simp only [HOp.vals]))
 all_goals (try (simp at ht))
 all_goals (try simp only [Operand.tmp.injEq] at ht)
 all_goals (try (subst ht;simp [qP];done))
 all_goals (try (rcases ht with ht|ht<;>subst ht<;>simp [qP]<;>done))
 all_goals (try (rcases ht with ht|ht|ht<;>subst ht<;>simp [qP]<;>done))
 all_goals (try (
  obtain ⟨a,ha⟩:=ht
  have hq:∃p∈_,_:=mapM_mem (by assumption) _ (zl066.2 ha)
  obtain ⟨b,hb,he⟩:=hq
  rw [Option.map_eq_some_iff] at he
  obtain ⟨q,_,rfl⟩:=he
  exact zl023.2 ⟨_,hb,rfl⟩))
 all_goals (try (
  obtain ⟨a,ha⟩:=ht
  exact zl023.2 ⟨_,zl066.2 ha,rfl⟩))
 all_goals (try (
  rename_i h0
  rcases ht with ht|ht
  ·have:=Array.eq_empty_of_size_eq_zero h0;subst this;simp at ht
  ·exact zl023.2 ⟨_,zl066.2 ht,rfl⟩))
 all_goals (try (
  rename_i h0
  have h1:=h0.2.2
  rcases ht with ht|ht<;>subst ht
  ·simp [qP]
  ·unfold FC at h1
   split at h1
   ·simp_all [qP]
   ·rename_i e;cases e
   ·cases h1))
 all_goals (try (
  rename_i h0
  rw [aG] at h0
  rcases ht with ht|ht|ht<;>subst ht
  ·simp [qP]
  ·cases h0.1
  ·cases h0.2))
 all_goals (rw [Call.operands,Array.mem_append] at ht)
 all_goals (rcases ht with ht|ht)
 all_goals (first|(rw [<- zl066] at ht;simp only [*,zl008,yP,or_false] at ht;done)|skip)
 all_goals (try (simp only [*] at ht;simp at ht;subst ht;simp [qP];done))
 all_goals (try (simp only [*] at ht;simp at ht;done))
 all_goals (try rw [<- zl066] at ht)
 all_goals (try (simp only [*,zl008,yP,or_false] at ht))
 all_goals (try (subst ht;simp [qP];done))
 all_goals (try (rcases ht with ht|ht<;>subst ht<;>simp [qP]<;>done))
 all_goals (try (exact zl023.2 ⟨_,ht,rfl⟩))
 all_goals (try (exact nG _ (zl023.2 ⟨_,ht,rfl⟩)))
 all_goals trace_state
 all_goals sorry
theorem Bd {P:Program} {ops:Array Oper} {T:Nat->Bool} {o:Oper} (hb:(aA P T o).op.isBad=false) {t:Tmp} (h:t∈o.looksAt ops):t∈looks (ops.toList.map (aA P T)) (aA P T o):=by
 have e:(aA P T o).op=aC P o:=by
  unfold aA at hb ⊢
  simp only at hb ⊢
  split at hb
  ·rename_i h;rw [if_pos h]
  ·cases hb
 rw [e] at hb
 unfold Oper.looksAt at h
 unfold looks
 rw [e]
 rcases zl001.1 h with h|h
 ·refine List.mem_append_left _ (mem_slotsOf.2 (NH hb ?_))
  obtain ⟨x,hx,hx'⟩:=List.mem_filterMap.1 h
  split at hx'
  ·cases hx';exact zl066.1 hx
  ·cases hx'
 ·refine List.mem_append_right _ ?_
  have hg:(aA P T o).guard=o.guard:=rfl
  rw [hg]
  cases h1:o.guard with
  | none=>rw [h1] at h;cases h
  | some gw =>
   obtain ⟨g,b⟩:=gw
   rw [h1] at h
   simp only [iT,Option.bind_map] at h ⊢
   have:((ops.toList[g]?).bind ((fun x=>x.dst) ∘ aA P T))=((ops[g]?).bind (·.dst)):=by rw [kz];rfl
   rw [this];exact h
theorem PM {P:Program} {T:Nat->Bool} {o:Oper} (hb:(aA P T o).op.isBad=false):∀cs b,o.op≠.select cs b:=by
 intro cs b he
 unfold aA aC at hb
 simp only [he] at hb
 split at hb<;>cases hb
def Ez (masks:List Nat) (all:List HOper) (i d x:Nat):Bool :=
 masks.getD i 0==0&&all.all (fun o=>!o.op.isBad)&&(List.range all.length).all fun j=>(match all[j]? with|some q=>(q.dst != some x || nN masks i j)&&(j==i || q.dst != some d&&(nN masks i j || !(looks all q).contains d))|none=>true)
def BU (o:HOper):Option (Nat×Nat):=match o with
 | ⟨some d,.mv _ (.t x),none⟩=>some (d,x)
 | _=>none
theorem G6 {o:HOper} {d x:Nat} (h:BU o=some (d,x)):∃z,o=⟨some d,.mv z (.t x),none⟩:=by
 unfold BU at h
 split at h
 ·cases h;exact ⟨_,rfl⟩
 ·cases h
def NP (masks:List Nat) (all:List HOper) (m:Nat):Bool :=
 (List.range m).all fun i=>match all[i]? with
  | some o=>(match BU o with|some (d,x)=>Ez masks all i d x|none=>false)
  | none=>false
section
variable {P:Program} {E:Fr} {ops:Array Oper} {Q:Exit->Act->World->Prop}
def ListedOK (ops:Array Oper) (listed:Array Bool):Prop:=∀i o,ops[i]?=some o->listed.getD i false=true->∀e∈o.after,Region.binds .any e=true->listed.getD e.on false=true
theorem Dx {all:List HOper} (hall:all=ops.toList.map (aA P E.ok)) (hst:kU (bF ops) all=true):∀i o e,ops[i]?=some o->e∈o.after->Region.binds .any e=true->e.on<i:=fun i o e ho he hb=>by
 have h1:=(jm hst (show all[i]?=some (aA P E.ok o) by rw [hall,iT,kz,ho];rfl)).1
 have h2:=xg ho he hb
 unfold nN at h2
 rcases dL e.on i with h|h
 ·exact h
 ·rw [BO (kM h1 (CV (by omega) h))] at h2;cases h2
theorem Ib {all:List HOper} (hall:all=ops.toList.map (aA P E.ok)) (hst:kU (bF ops) all=true) {listed:Array Bool} (hcl:ListedOK ops listed):∀i,∀k,nN (bF ops) k i=true->i<ops.size->listed.getD i false=true->listed.getD k false=true:=by
 intro i
 induction i using Nat.strongRecOn with
 | _ i ihi =>
  intro k hk hi hl
  have ho:ops[i]?=some ops[i]:=jv hi
  obtain ⟨e,he,hb,h⟩:=jk ho hk
  have hle:=hcl i _ ho hl e he hb
  rcases h with rfl|h
  ·exact hle
  ·have:=Dx hall hst i _ e ho he hb
   exact ihi e.on this k h (by omega) hle
theorem ListedOK.set {listed:Array Bool} (hcl:ListedOK ops listed) (hsz:listed.size=ops.size) {j:Nat} {oj:Oper} (hoj:ops[j]?=some oj) (haft:∀e∈oj.after,Region.binds .any e=true->listed.getD e.on false=true):ListedOK ops (listed.setIfInBounds j true):=by
 have hjo:j<ops.size:=(zl022.1 hoj).1
 have hset:∀k,(listed.setIfInBounds j true).getD k false=true <-> (listed.getD k false=true\/k=j):=fun k=>by
  by_cases hk:k=j
  ·subst hk;simp [hsz,hjo]
  ·rw [getD_set_ne false (fun h=>hk h.symm)];simp [hk]
 intro k q hq hl e' he' hb'
 rcases (hset k).1 hl with h|rfl
 ·exact (hset _).2 (.inl (hcl k q hq h e' he' hb'))
 ·rw [hoj] at hq;cases hq
  exact (hset _).2 (.inl (haft e' he' hb'))
theorem xq {listed:Array Bool} {i:Nat} (h1:listed.getD i false=true) (h2:listed.getD i true=false):False:=by
 rcases dL i listed.size with h'|h'
 ·simp [h'] at h1 h2;rw [h2] at h1;cases h1
 ·simp [uj h'] at h1
theorem JA {all:List HOper} (hall:all=ops.toList.map (aA P E.ok)) (hst:kU (bF ops) all=true) {i d x z:Nat} {oi:Oper} (hi:ops[i]?=some oi) (hop:aA P E.ok oi=⟨some d,.mv z (.t x),none⟩) (hf:Ez (bF ops) all i d x=true) (hQ:∀c a w,¬ Q (.panic c) a w) (v:Value) :
  ∀ (fuel:Nat) (listed:Array Bool) (a:Act) (w:World),listed.size=ops.size->ListedOK ops listed->listed.getD i true=false->Yields P ops oi v a ->
   wpAny P .any ops Q fuel (listed.setIfInBounds i true) (a.put (some d) v) w->wpAny P .any ops Q (fuel+1) listed a w:=by
 simp only [Ez,aG,beq_iff_eq,zl014,uu,zl034] at hf
 obtain ⟨⟨hf1,hf2⟩,hf3⟩:=hf
 have atH:∀i o,ops[i]?=some o->all[i]?=some (aA P E.ok o):=fun i o h=>by rw [hall,iT,kz,h];rfl
 have hbad:∀j oj,ops[j]?=some oj->(aA P E.ok oj).op.isBad=false:=fun j oj h=>hf2 _ (List.mem_of_getElem? (atH j oj h))
 have hdst:oi.dst=some d:=by have:=congrArg HOper.dst hop;exact this
 have hno:∀e∈oi.after,Region.binds .any e=true->False:=fun e he hb=>by
  have:=xg hi he hb
  unfold nN at this
  rw [hf1] at this
  simp at this
 have rdy:∀listed:Array Bool,listed.getD i true=false->i∈Region.ready .any ops listed:=fun listed h=>mem_ready.2 ⟨h,oi,hi,fun e he hb=>(hno e he hb).elim⟩
 have key:∀ (listed:Array Bool) (j:Nat) (oj:Oper),listed.size=ops.size->ListedOK ops listed->listed.getD i true=false->ops[j]?=some oj->j≠i->(∀e∈oj.after,Region.binds .any e=true->listed.getD e.on false=true)->oi.apart ops oj=true:=by
  intro listed j oj hsz hcl hun hoj hji haft
  have hjo:j<ops.size:=(zl022.1 hoj).1
  have b:nN (bF ops) i j=false:=by
   cases hb:nN (bF ops) i j with
   | false=>rfl
   | true =>
    exfalso
    obtain ⟨e,he,hbb,h⟩:=jk hoj hb
    have hle:=haft e he hbb
    rcases h with rfl|h
    ·exact xq hle hun
    ·have:=Dx hall hst j oj e hoj he hbb
     exact xq (Ib hall hst hcl e.on i h (by omega) hle) hun
  have h3:=hf3 j (by rw [hall];simpa using hjo)
  rw [atH j oj hoj] at h3
  simp only [aG,uy,b,beq_iff_eq,Bool.false_eq_true,false_or,or_false,bne_iff_ne,ne_eq,uu,List.contains_eq_mem,decide_eq_false_iff_not] at h3
  obtain ⟨h4,h5⟩:=h3
  rcases h5 with h5|⟨h5,h6⟩
  ·exact absurd h5 hji
  have hd':(aA P E.ok oj).dst=oj.dst:=rfl
  rw [hd'] at h4 h5
  have hlk:∀t∈oi.looksAt ops,t=x:=fun t ht=>by
   have:=Bd (hbad i oi hi) ht
   rw [hop] at this
   simpa [looks,slotsOf,HOp.vals] using this
  unfold Oper.apart
  rw [hdst]
  simp only [aG,uu,List.contains_eq_mem,decide_eq_false_iff_not,bne_iff_ne,ne_eq]
  refine ⟨⟨fun h=>h6 ?_,h5⟩,?_⟩
  ·rw [hall];exact Bd (hbad j oj hoj) h
  ·cases hj:oj.dst with
   | none=>rfl
   | some e =>
    simp only [uu,decide_eq_false_iff_not]
    intro he
    exact h4 (by rw [hj,hlk e he])
 intro fuel
 induction fuel with
 | zero =>
  intro listed a w hsz hcl hun hy H
  have hr:=rdy listed hun
  refine ⟨fun h=>(by rw [h] at hr;cases hr),fun j hj=>?_⟩
  by_cases hji:j=i
  ·subst hji;refine hy.wpOp hi ?_;rw [hdst];exact H
  ·have:=ready_mono hj hji
   rw [H.1] at this
   cases this
 | succ fuel ih =>
  intro listed a w hsz hcl hun hy H
  have hr:=rdy listed hun
  refine ⟨fun h=>(by rw [h] at hr;cases hr),fun j hj=>?_⟩
  by_cases hji:j=i
  ·subst hji;refine hy.wpOp hi ?_;rw [hdst];exact H
  ·have h1:=H.2 j (ready_mono hj hji)
   obtain ⟨hjun,oj,hoj,hall'⟩:=mem_ready.1 hj
   rw [<- hdst] at h1
   have h2:=wpOp_put hoj (key listed j oj hsz hcl hun hoj hji hall') (PM (hbad i oi hi)) (PM (hbad j oj hoj)) (fun c a w h=>(hQ _ _ _ h).elim) hy h1
   refine wpOp_mono (fun a' w' h3=>ih (listed.setIfInBounds j true) a' w' (by simpa using hsz) (hcl.set hsz hoj hall') (by rw [getD_set_ne true hji];exact hun) h3.1 ?_) h2
   rw [Array.setIfInBounds_comm _ _ hji,<- hdst]
   exact h3.2
theorem JL {o:Oper} {d x z:Nat} {T:Nat->Bool} (hop:aA P T o=⟨some d,.mv z (.t x),none⟩) (a:Act):Yields P ops o (a.tmps.getD x undef) a:=by
 have hg:o.guard=none:=by have:=congrArg HOper.guard hop;exact this
 have ho:=congrArg HOper.op hop
 unfold aA at ho
 simp only at ho
 split at ho
 rotate_left
 ·cases ho
 refine .inl ⟨by simp [Region.wanted,hg],fun w=>?_⟩
 have:o.op=.move (.tmp x)\/o.op=.assign (.tmp x):=by
  obtain ⟨dst,op,type,pos,after,guard⟩:=o
  revert ho
  unfold aC
  simp only
  repeat' split
  all_goals (intro ho)
  all_goals (first|(cases ho;done)|(unfold yl at ho;split at ho<;>(cases ho;done))|(unfold qx at ho;split at ho<;>(cases ho;done))|skip)
  ·left;injection ho with _ h;exact congrArg Op.move (Jk h)
  ·right;injection ho with _ h;exact congrArg Op.assign (Jk h)
 rcases this with h|h<;>simp [execOp,h,Act.eval]
def OH (all:List HOper):List Nat->List (Nat×HV)->List (Nat×HV)
 | [],sl=>sl
 | i::r,sl=>OH all r (match all[i]? with
  | some o=>(match BU o with|some (d,x)=>(d,au x sl)::sl|none=>sl)
  | none=>sl)
theorem HY {all:List HOper} (hall:all=ops.toList.map (aA P E.ok)) (hst:kU (bF ops) all=true) (hQ:∀c a w,¬ Q (.panic c) a w) :
  ∀ (l:List Nat) (fuel:Nat) (listed:Array Bool) (N:Nat) (sl:List (Nat×HV)) (M:Lk) (loc:Nat->Value) (fp:Nat->List Nat) (a:Act) (w:World),listed.size=ops.size->ListedOK ops listed->l.Nodup ->
   (∀i∈l,listed.getD i true=false/\∃o d x,all[i]?=some o/\BU o=some (d,x)/\Ez (bF ops) all i d x=true) ->
   Rel E N (fun t=>au t sl) M loc fp a w ->
   (∀listed' a',listed'.size=ops.size->ListedOK ops listed'->(∀k,listed'.getD k true=false <-> (listed.getD k true=false/\k ∉ l))->Rel E N (fun t=>au t (OH all l sl)) M loc fp a' w->wpAny P .any ops Q fuel listed' a' w)->wpAny P .any ops Q (fuel+l.length) listed a w:=by
 intro l
 induction l with
 | nil =>
  intro fuel listed N sl M loc fp a w hsz hcl _ _ hr h
  exact h listed a hsz hcl (fun k=>by simp) hr
 | cons i l ih =>
  intro fuel listed N sl M loc fp a w hsz hcl hnd hl hr h
  obtain ⟨hun,o,d,x,ho,hflt,hf⟩:=hl i (by simp)
  obtain ⟨z,rfl⟩:=G6 hflt
  have hio:i<ops.size:=by
   have:=(zl030.1 ho).1
   rw [hall] at this;simpa using this
  have hoi:ops[i]?=some ops[i]:=jv hio
  have hop:aA P E.ok ops[i]=⟨some d,.mv z (.t x),none⟩:=by
   rw [hall,iT,kz,hoi] at ho
   exact Option.some.inj ho
  have hdst:ops[i].dst=some d:=by have:=congrArg HOper.dst hop;exact this
  have hok:∀t,some d=some t->E.ok t=true:=by
   have hq:=congrArg HOper.op hop
   unfold aA at hq
   simp only at hq
   split at hq
   ·rename_i h1
    rintro t ⟨⟩
    rw [hdst] at h1
    simpa using h1
   ·cases hq
  have hr':=hr.put (some d) hok (hr.slots x)
  have hno:∀e∈ops[i].after,Region.binds .any e=true->listed.getD e.on false=true:=fun e he hb=>by
   have:=xg hoi he hb
   unfold nN at this
   simp only [Ez,aG,beq_iff_eq] at hf
   rw [hf.1.1] at this
   simp at this
  rw [zl027] at hnd
  rw [List.length_cons,<- uw]
  refine JA hall hst hoi hop hf hQ (a.tmps.getD x undef) (fuel+l.length) listed a w hsz hcl hun (JL hop a) ?_
  refine ih fuel (listed.setIfInBounds i true) N ((d,au x sl)::sl) M loc fp _ w (by simpa using hsz) (hcl.set hsz hoi hno) hnd.2 (fun k hk=>?_) ?_ ?_
  ·have hki:i≠k:=fun e=>hnd.1 (e▸hk)
   obtain ⟨h1,h2⟩:=hl k (by simp [hk])
   exact ⟨by rw [getD_set_ne true hki];exact h1,h2⟩
  ·refine Eq.mp ?_ hr'
   congr 1
   funext t
   simp only [au]
   by_cases e:d=t
   ·subst e;simp
   ·simp [e]
  ·intro listed' a' h1 h2 h3 h4
   refine h listed' a' h1 h2 (fun k=>?_) ?_
   ·rw [h3 k]
    by_cases e:i=k
    ·subst e;have:i<listed.size:=by omega
     simp [this]
    ·rw [getD_set_ne true e]
     have:¬ k=i:=fun h=>e h.symm
     simp [this]
   ·simp only [OH,ho,hflt]
    exact h4
theorem ER {Q':Exit->Act->World->Prop} (h:∀e a w,Q e a w->Q' e a w):∀ (fuel:Nat) (listed:Array Bool) (a:Act) (w:World),wpAny P .any ops Q fuel listed a w->wpAny P .any ops Q' fuel listed a w:=by
 intro fuel
 induction fuel with
 | zero=>intro listed a w hh;exact ⟨hh.1,h _ _ _ hh.2⟩
 | succ fuel ih =>
  intro listed a w hh
  refine ⟨fun h0=>h _ _ _ (hh.1 h0),fun i hi=>?_⟩
  have h1:=hh.2 i hi
  have lo:LetsOut Q->LetsOut Q':=fun ⟨a,w,hq⟩=>⟨a,w,h _ _ _ hq⟩
  unfold wpOp at h1 ⊢
  split
  ·rename_i ho;rw [ho] at h1;exact ih _ _ _ h1
  ·rename_i o ho
   rw [ho] at h1
   simp only at h1
   split
   ·rename_i hw
    rw [if_pos hw] at h1
    refine h1.imp (fun h2=>?_) fun ⟨h2,h3⟩=>⟨h2,lo h3⟩
    unfold Oper.wp at h2 ⊢
    generalize (execOp a.eval o).run P w=r at h2 ⊢
    cases r with
    | ok n w' =>
     cases n<;>simp only [Oper.upon] at h2 ⊢ <;>
      first
       | exact ih _ _ _ h2
       | exact Calls.mono h2 (fun e w'' he=>by cases e<;>first|exact ih _ _ _ he|exact h _ _ _ he|exact lo he)
       | exact Rows.mono h2 (fun _ _ he=>ih _ _ _ he)
    | halt x w'=>cases x<;>simp only [Oper.upon] at h2 ⊢<;>first|exact h _ _ _ h2|exact h2
   ·rename_i hw
    rw [if_neg hw] at h1
    exact ih _ _ _ h1
end
end Go.HL
end
