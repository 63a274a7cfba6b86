import Derived.Test.YteamkjblpglliaaFlPush
import Derived.Test.YteamkjblpglliaaNet
import Derived.Deep.DeepCutAuto
section
set_option linter.unusedSimpArgs false
set_option linter.unusedVariables false
namespace Go.Proofs.Yteamkjblpglliaa
def rM (es:List Edge):List Nat:=(es.map fun e=>[e.t.toNat,e.f.toNat]).flatten
def lD (es:List Edge):List Int:=(es.map fun e=>[e.c,0]).flatten
def fM (n:Nat) (es:List Edge):Nat->List (List Nat)
 | 0=>List.replicate n []
 | j+1=>((fM n es j).set (es.getD j default).f.toNat ((fM n es j).getD (es.getD j default).f.toNat []++[2*j])).set (es.getD j default).t.toNat ((fM n es j).getD (es.getD j default).t.toNat []++[2*j+1])
theorem oL {α:Type} (g h:Edge->α) (d:α):∀ (es:List Edge) (i:Nat) (hi:i<es.length),((es.map fun e=>[g e,h e]).flatten).getD (2*i) d=g es[i]/\((es.map fun e=>[g e,h e]).flatten).getD (2*i+1) d=h es[i]:=by
 intro es
 induction es with
 | nil=>intro i hi;simp at hi
 | cons e es ih =>
  intro i hi
  cases i with
  | zero=>simp
  | succ i =>
   have:=ih i (by simpa using hi)
   have e1:2*(i+1)=2*i+1+1:=by omega
   rw [e1]
   simpa using this
theorem vX {α:Type} (g h:Edge->α) (es:List Edge):((es.map fun e=>[g e,h e]).flatten).length=2*es.length:=by
 induction es with
 | nil=>rfl
 | cons e es ih=>simp [ih];omega
theorem xE {α:Type} (g h:Edge->α) (es:List Edge) (j:Nat) (hj:j<es.length):(((es.take (j+1)).map fun e=>[g e,h e]).flatten)=((es.take j).map fun e=>[g e,h e]).flatten++[g es[j],h es[j]]:=by
 rw [List.take_succ_eq_append_getElem hj]
 simp only [List.map_append,List.map_cons,List.map_nil,List.flatten_append,List.flatten_cons,List.flatten_nil,List.append_nil]
theorem Aj (n:Nat) (es:List Edge) (j:Nat):(fM n es j).length=n:=by
 induction j with
 | zero=>simp [fM]
 | succ j ih=>simp [fM,ih]
theorem JL {n s t:Int} {es:List Edge} (hv:VNet n s t es):∀j,j<=es.length->∀v k,k∈(fM n.toNat es j).getD v [] <-> k<2*j/\(rM es).getD (twin k) 0=v:=by
 intro j
 induction j with
 | zero =>
  intro _ v k
  have:(fM n.toNat es 0).getD v []=[]:=by
   rcases Nat.lt_or_ge v n.toNat with h|h
   ·rw [getD_lt _ _ (by simpa [fM] using h)];simp [fM]
   ·rw [mW _ _ (by simpa [fM] using h)]
  rw [this];simp
 | succ j ih =>
  intro hj v k
  have hj':j<es.length:=by omega
  have ih:=ih (by omega)
  have hed:es.getD j default=es[j]:=getD_lt _ _ hj'
  obtain ⟨g1,g2⟩:=oL (fun e=>e.t.toNat) (fun e=>e.f.toNat) 0 es j hj'
  obtain ⟨a1,a2,a3,a4,a5,_,_⟩:=hv.all _ (List.getElem_mem hj')
  have hl:=Aj n.toNat es j
  have hne:es[j].f.toNat≠es[j].t.toNat:=by omega
  have t0:twin (2*j)=2*j+1:=by unfold twin;rw [if_pos (by omega)]
  have t1:twin (2*j+1)=2*j:=by unfold twin;rw [if_neg (by omega)];omega
  simp only [fM,hed]
  have key:(k<2*(j+1)/\(rM es).getD (twin k) 0=v) <-> ((k<2*j/\(rM es).getD (twin k) 0=v)\/(k=2*j/\es[j].f.toNat=v)\/(k=2*j+1/\es[j].t.toNat=v)):=by
   constructor
   ·rintro ⟨h1,h2⟩
    by_cases c1:k<2*j
    ·exact .inl ⟨c1,h2⟩
    ·by_cases c2:k=2*j
     ·subst c2;rw [t0] at h2;exact .inr (.inl ⟨rfl,by rw [<- h2];exact g2.symm⟩)
     ·have c3:k=2*j+1:=by omega
      subst c3;rw [t1] at h2;exact .inr (.inr ⟨rfl,by rw [<- h2];exact g1.symm⟩)
   ·rintro (⟨h1,h2⟩|⟨rfl,h2⟩|⟨rfl,h2⟩)
    ·exact ⟨by omega,h2⟩
    ·exact ⟨by omega,by rw [t0,<- h2];exact g2⟩
    ·exact ⟨by omega,by rw [t1,<- h2];exact g1⟩
  rw [key]
  by_cases c1:v=es[j].t.toNat
  ·subst c1
   rw [iQ _ _ _ (by simp [hl];omega),List.mem_append,ih]
   simp [hne]
  ·rw [getD_set_ne _ _ _ c1]
   by_cases c2:v=es[j].f.toNat
   ·subst c2
    rw [iQ _ _ _ (by simp [hl];omega),List.mem_append,ih]
    simp [Ne.symm hne]
   ·rw [getD_set_ne _ _ _ c2,ih]
    have h1:¬ es[j].f.toNat=v:=fun e=>c2 e.symm
    have h2:¬ es[j].t.toNat=v:=fun e=>c1 e.symm
    simp [h1,h2]
theorem OX {n s t:Int} {es:List Edge} (hv:VNet n s t es):Hq n.toNat (2*es.length) (rM es) (fM n.toNat es es.length):=by
 have hk:∀k,k<2*es.length->∃i,∃hi:i<es.length,(k=2*i/\(rM es).getD k 0=es[i].t.toNat/\(rM es).getD (twin k) 0=es[i].f.toNat)\/(k=2*i+1/\(rM es).getD k 0=es[i].f.toNat/\(rM es).getD (twin k) 0=es[i].t.toNat):=by
  intro k hk
  have hi:k / 2<es.length:=by omega
  obtain ⟨g1,g2⟩:=oL (fun e=>e.t.toNat) (fun e=>e.f.toNat) 0 es (k / 2) hi
  refine ⟨k / 2,hi,?_⟩
  rcases Nat.mod_two_eq_zero_or_one k with h0|h0
  ·have e1:2*(k / 2)=k:=by omega
   have e2:twin k=k+1:=by unfold twin;rw [if_pos h0]
   rw [e1] at g1 g2
   exact .inl ⟨e1.symm,g1,by rw [e2];exact g2⟩
  ·have e1:2*(k / 2)+1=k:=by omega
   have e2:twin k=2*(k / 2):=by unfold twin;rw [if_neg (by omega)];omega
   rw [e1] at g2
   exact .inr ⟨e1.symm,g2,by rw [e2];exact g1⟩
 refine ⟨by omega,vX _ _ es,Aj _ _ _,?_,JL hv _ (Nat.le_refl _),?_⟩
 ·intro k hk'
  obtain ⟨i,hi,h|h⟩:=hk k hk'
  ·obtain ⟨a1,a2,a3,a4,a5,_,_⟩:=hv.all _ (List.getElem_mem hi);rw [h.2.1];omega
  ·obtain ⟨a1,a2,a3,a4,a5,_,_⟩:=hv.all _ (List.getElem_mem hi);rw [h.2.1];omega
 ·intro k hk'
  obtain ⟨i,hi,h|h⟩:=hk k hk'
  ·obtain ⟨a1,a2,a3,a4,a5,_,_⟩:=hv.all _ (List.getElem_mem hi);rw [h.2.1,h.2.2];omega
  ·obtain ⟨a1,a2,a3,a4,a5,_,_⟩:=hv.all _ (List.getElem_mem hi);rw [h.2.1,h.2.2];omega
structure RunOK (s t:Nat) (es:List Edge) (left:List Int) (value:Int):Prop where
 len:left.length=2*es.length
 nn:∀k,0<=left.getD k 0
 pair:∀k,k<2*es.length->left.getD k 0+left.getD (twin k) 0=(lD es).getD k 0+(lD es).getD (twin k) 0
 net:∀u,oN (rM es) left u es.length=(if u=s then value else 0) - (if u=t then value else 0)
theorem oQ {n s t:Int} {es:List Edge} (_hv:VNet n s t es) (i:Nat) (hi:i<es.length):(lD es).getD (2*i) 0=es[i].c/\(lD es).getD (2*i+1) 0=0:=oL (fun e=>e.c) (fun _=>0) 0 es i hi
theorem LJ {n s t:Int} {es:List Edge} (hv:VNet n s t es) (k:Nat):0<=(lD es).getD k 0:=by
 rcases Nat.lt_or_ge k (2*es.length) with h|h
 ·have hi:k / 2<es.length:=by omega
  obtain ⟨g1,g2⟩:=oQ hv (k / 2) hi
  obtain ⟨_,_,_,_,_,a6,_⟩:=hv.all _ (List.getElem_mem hi)
  rcases Nat.mod_two_eq_zero_or_one k with h0|h0
  ·rw [show k=2*(k / 2) by omega,g1];exact a6
  ·rw [show k=2*(k / 2)+1 by omega,g2];omega
 ·rw [mW _ _ (by rw [lD,vX];exact h)];omega
theorem JI {n s t:Int} {es:List Edge} (hv:VNet n s t es) (k:Nat) (hk:k<2*es.length):(lD es).getD k 0+(lD es).getD (twin k) 0<=1099511627776:=by
 have hi:k / 2<es.length:=by omega
 obtain ⟨g1,g2⟩:=oQ hv (k / 2) hi
 obtain ⟨_,_,_,_,_,a6,a7⟩:=hv.all _ (List.getElem_mem hi)
 rcases Nat.mod_two_eq_zero_or_one k with h0|h0
 ·have e2:twin k=2*(k / 2)+1:=by unfold twin;rw [if_pos h0];omega
  rw [e2,g2,show k=2*(k / 2) by omega,g1];omega
 ·have e2:twin k=2*(k / 2):=by unfold twin;rw [if_neg (by omega)];omega
  have e3:(lD es).getD k 0=0:=by rw [show k=2*(k / 2)+1 by omega];exact g2
  rw [e2,g1,e3];omega
theorem RunOK.start {n s t:Int} {es:List Edge} (hv:VNet n s t es):RunOK s.toNat t.toNat es (lD es) 0:=by
 refine ⟨vX _ _ es,LJ hv,fun _ _=>rfl,?_⟩
 intro u
 have:∀j,j<=es.length->oN (rM es) (lD es) u j=0:=by
  intro j
  induction j with
  | zero=>intro _;rfl
  | succ j ih =>
   intro hj
   simp only [oN,ih (by omega)]
   unfold give
   rw [(oQ hv j (by omega)).2]
   simp
 rw [this _ (Nat.le_refl _)];simp
theorem RunOK.sums {n s t:Int} {es:List Edge} (hv:VNet n s t es) {s' t':Nat} {left:List Int} {value:Int} (H:RunOK s' t' es left value) (k:Nat) (hk:k<2*es.length):left.getD k 0+left.getD (twin k) 0<=1099511627776:=by
 rw [H.pair k hk];exact JI hv k hk
theorem RunOK.bound {n s t:Int} {es:List Edge} (hv:VNet n s t es) {left:List Int} {value:Int} (H:RunOK s.toNat t.toNat es left value):value<=72057594037927936:=by
 have h1:=H.net s.toNat
 have hst:¬ s.toNat=t.toNat:=by have:=hv.bounds;omega
 rw [if_pos rfl,if_neg hst] at h1
 have:∀j,j<=es.length->oN (rM es) left s.toNat j<=(j:Int)*1099511627776:=by
  intro j
  induction j with
  | zero=>intro _;simp [oN]
  | succ j ih =>
   intro hj
   have h2:=ih (by omega)
   have h3:=H.sums hv (2*j+1) (by omega)
   have h4:=H.nn (twin (2*j+1))
   have h5:=H.nn (2*j+1)
   simp only [oN,give]
   push_cast
   split<;>split<;>omega
 have h2:=this _ (Nat.le_refl _)
 have:=hv.len
 omega
theorem RunOK.push {n s t:Int} {es:List Edge} (_hv:VNet n s t es) {left:List Int} {value:Int} (H:RunOK s.toNat t.toNat es left value) {outs:List (List Nat)} {level:List Int} {ats ats':List Nat} {left':List Int} {sent:Int}
  (P:Pu (2*es.length) t.toNat s.toNat (rM es) outs level left ats left' ats' sent):RunOK s.toNat t.toNat es left' (value+sent):=by
 refine ⟨by rw [P.lenl,H.len],P.nn,fun k hk=>by rw [P.pair k hk,H.pair k hk],?_⟩
 intro u
 have h1:=P.net u
 have h2:=H.net u
 rw [show 2*es.length / 2=es.length by omega] at h1
 rw [h1,h2]
 split<;>split<;>omega
theorem KT {n nt s t:Nat} {too:List Nat} {outs:List (List Nat)} {level left left':List Int} {ats ats':List Nat} {sent amount:Int} (L:sF n s outs too left level) (ht:0<=lv level t)
  (P:Pu nt t s too outs level left ats left' ats' sent) (ha:1<=amount) (hend:sent<amount->s≠t/\ats'.getD s 0=(outs.getD s []).length):1<=sent:=by
 have h0:=P.s0
 by_cases hs:sent=0
 ·exfalso
  have hz:=P.zero hs
  obtain ⟨hst,hsat⟩:=hend (by omega)
  have key:∀ (j:Nat) (v:Nat),lv level v=(j:Int)->¬ (v≠t/\ats'.getD v 0=(outs.getD v []).length)->False:=by
   intro j
   induction j with
   | zero =>
    intro v hv hne
    have:=(L.zero v).1 (by simpa using hv)
    subst this
    exact hne ⟨hst,hsat⟩
   | succ j ih =>
    intro v hv hne
    obtain ⟨u,k,h1,h2,h3,h4⟩:=L.pred v (by omega)
    refine ih u (by push_cast at hv;omega) ?_
    rintro ⟨hu1,hu2⟩
    obtain ⟨p,hp,hpk⟩:=List.getElem_of_mem h1
    have:=P.exh u hu1 p (by omega) k (by rw [List.getElem?_eq_getElem hp,hpk])
    rcases this with h|h|h
    ·rw [hz] at h;omega
    ·rw [h2] at h;omega
    ·rw [h2] at h;exact hne h
  obtain ⟨j,hj⟩:=Int.eq_ofNat_of_zero_le ht
  exact key j t hj (fun h=>h.1 rfl)
 ·omega
end Go.Proofs.Yteamkjblpglliaa
end
section
set_option linter.unusedSimpArgs false
set_option linter.unusedVariables false
namespace Go.Proofs.Yteamkjblpglliaa
open Go.RowKit Go.SL
def Ov (n:Nat) (s t:Nat) (es:List Edge) (w:World) (e:Ending) (w':World):Prop :=
 ∃ (b go co:Nat) (at_:Option Addr) (ct:Nat) (al:Option Addr) (cl:Nat) (av:Option Addr) (cv:Nat) (aa:Option Addr) (ca:Nat) (us:List Value) (left level:List Int) (ats:List Nat) (value:Int),
  e=.returned (.tuple #[.pointer (some ⟨b,0,none⟩),.int .i64 value])/\RunOK s t es left value/\sF n s (fM n es es.length) (rM es) left level/\lv level t<0 /\
  Sat w.heap.size w w' (jQ b go n co at_ (2*es.length) ct al cl av cv aa ca s t us (rM es) (fM n es es.length) left level ats [])
theorem J7 (n:Nat) (u:Value):madeCells #[u] (n*1)=(List.replicate n u).toArray:=by
 apply Array.ext'
 rw [Nat.mul_one,toList_madeCells_one]
theorem Jj (n:Nat) (hn:n<=258) (W:World):(Instr.makeSlice 22 (.int .i64 (n:Int)) (.int .i64 (n:Int))).run Try.prog W=.ok (.slice (some ⟨W.heap.size,0,none⟩) n n) (W.alloc (.cells (List.replicate n (Value.int .i64 0)).toArray 3)):=by
 obtain ⟨i,zv,hi,hzv,hzc,hsz,hby⟩:=T.ints.info
 have:=run_make (P:=Try.prog) W 22 3 i zv T.ints.und hi hzv .i64 .i64 n n (by omega) (Int.le_refl _) (by rw [hby];omega) (by omega)
 rw [this,hzc,hsz]
 simp only [Int.toNat_natCast]
 rw [show ([Value.int .i64 0].length)=1 from rfl,J7]
theorem CB {n:Nat} {s t:Int} {es:List Edge} (hv:VNet n s t es) (j:Nat) (hj:j<=es.length):∀l∈fM n es j,l.length<=200000:=by
 have h8:=hv.len
 have key:∀j,j<=es.length->∀l∈fM n es j,l.length<=2*j:=by
  intro j
  induction j with
  | zero=>intro _ l hl;simp [fM] at hl;simp [hl.2]
  | succ j ih =>
   intro hj l hl
   have hg:∀v,((fM n es j).getD v []).length<=2*j:=by
    intro v
    rcases Nat.lt_or_ge v (fM n es j).length with h|h
    ·rw [getD_lt _ _ h];exact ih (by omega) _ (List.getElem_mem h)
    ·rw [mW _ _ h];simp
   simp only [fM] at hl
   rcases List.mem_or_eq_of_mem_set hl with h|h
   ·rcases List.mem_or_eq_of_mem_set h with h|h
    ·have:=ih (by omega) l h;omega
    ·subst h;have:=hg (es.getD j default).f.toNat;simp at *;omega
   ·subst h;have:=hg (es.getD j default).t.toNat;simp at *;omega
 intro l hl
 have:=key j hj l hl
 omega
set_option maxHeartbeats 8000000 in
set_option maxRecDepth 100000 in
theorem run_any (n:Nat) (a:Option Addr) (m cap:Nat) (es:List Edge) (s t:Nat) (w:World) (hr:rd w a (jS es)) (hl:es.length=m) (hv:VNet n s t es) :
  Calls Try.prog 78 #[.int .i64 n,.slice a m cap,.int .i64 s,.int .i64 t] w (Ov n s t es w):=by
 obtain ⟨v1,v2,v3,v4,v5,v6,v7,v8⟩:=hv.bounds
 replace hv:=Lib.hid hv
 have hmk:=Jj n (by omega)
 replace hl:=Lib.hid hl
 go_enter Try.func78,Try.ntmps78
 go_upto_region 1 with fail
 go_cut [10] (fun x wx=>x=.pointer (some ⟨w.heap.size+1+1,0,none⟩)/\∃gv ga:Nat,Sat w.heap.size w wx (row 3 1 0 (.slice (some ⟨gv,0,none⟩) n n) n (List.replicate n (.int .i64 0))::row 3 1 0 (.slice (some ⟨ga,0,none⟩) n n) n (List.replicate n (.int .i64 0))::blk (w.heap.size+1+1) [.slice none 0 0,.slice none 0 0,.slice none 0 0,.slice (some ⟨gv,0,none⟩) n n,.slice (some ⟨ga,0,none⟩) n n,.int .i64 s,.int .i64 t] 110::[]))
 case first =>
  have h1:=(Sat.init w).lit (List.replicate n (.int .i64 0)) 3 1 n (by simp) (by unfold maxLen;omega)
  have h2:=h1.lit (List.replicate n (.int .i64 0)) 3 1 n (by simp) (by unfold maxLen;omega)
  simp only [World.size_alloc] at h2
  go_region
  all_goals
   go_wp2_with fail
   go_meet
  ·have h3:=(h2.var [.slice none 0 0,.slice none 0 0,.slice none 0 0,.slice (some ⟨w.heap.size,0,none⟩) n n,.slice (some ⟨w.heap.size+1,0,none⟩) n n,.int .i64 s,.int .i64 t] 110).drew
   simp only [World.size_alloc] at h3
   exact ⟨rfl,_,_,h3⟩
  ·have h3:=(h2.var [.slice none 0 0,.slice none 0 0,.slice none 0 0,.slice (some ⟨w.heap.size+1,0,none⟩) n n,.slice (some ⟨w.heap.size,0,none⟩) n n,.int .i64 s,.int .i64 t] 110).drew
   simp only [World.size_alloc] at h3
   exact ⟨rfl,_,_,h3.sel [1,0,2] (by decide) rfl⟩
 case rest =>
  obtain ⟨rfl,gv,ga,h3⟩:=hcut
  clear hmk
  go_wp2_with (first
   | (at_make;go_must (refine Ad rfl T.rows _ _ rfl n rfl rfl h3 (by decide) (by omega) (by unfold maxLen;omega) ?_;intro g1 w1 hS4))
   | ((with_reducible show wpList _ _ _ (Oper.mk none _ _ _ _ _::_) _ _);go_must (refine FO rfl 23 _ _ rfl 2 hS4 rfl 2 rfl (by simp) (u:=.slice (some g1) n n) rfl rfl (by kernel_rfl) ?_;intro w2 hS5)))
  have hS6:=(((hS5.bagNew 3 1 n).nil 3 1).nil 3 1)
  rw [kD] at hS6
  obtain ⟨go,cgo,hgo,_,_⟩:=hS6.opened 3 rfl (by omega)
  simp only [Value.slice.injEq,Option.some.injEq,true_and] at hgo
  obtain ⟨rfl,rfl⟩:=hgo
  have hS7:Sat w.heap.size w w2 (jQ (w.heap.size+1+1) go n n none 0 0 none 0 (some ⟨gv,0,none⟩) n (some ⟨ga,0,none⟩) n s t (List.replicate n (.slice none 0 0)) [] (List.replicate n []) [] (List.replicate n 0) (List.replicate n 0) []):=by
   simpa [jQ,rM] using hS6.sel [2,5,6,3,4,0,1] (by decide) rfl
  clear h3 hS4 hS5 hS6
  go_loopg [30] m (fun g i wr=>∃ (k:Nat) (at_ al:Option Addr) (ct cl:Nat) (us:List Value),g=m - k/\k<=m/\i=.int .i64 k/\Sat w.heap.size w wr (jQ (w.heap.size+1+1) go n n at_ (2*k) ct al cl (some ⟨gv,0,none⟩) n (some ⟨ga,0,none⟩) n s t us (rM (es.take k)) (fM n es k) (lD (es.take k)) (List.replicate n 0) (List.replicate n 0) []))
  case atStart=>exact ⟨0,none,none,0,0,_,rfl,Nat.zero_le _,rfl,by simpa [rM,lD,fM] using hS7⟩
  case round =>
   clear hS7
   obtain ⟨k,at_,al,ct,cl,us,rfl,hk,rfl,hS⟩:=hrel
   by_cases hlt:k<m
   ·have hk':k<es.length:=by have:=hl.out;omega
    obtain ⟨g1,off,rfl,hg1,hc⟩:=hr.opened (by rw [kS];have:=hl.out;omega)
    obtain ⟨c1,c2,c3⟩:=pK hc k hk'
    have hbase:=hS.base
    have hg1w:g1<wr.heap.size:=by omega
    have c1':=hS.old hg1 c1
    have c2':=hS.old hg1 c2
    have c3':=hS.old hg1 c3
    obtain ⟨e1,e2,e3,e4,e5,e6,e7⟩:=hv.out.all _ (List.getElem_mem hk')
    have htk:=xE (fun e=>e.t.toNat) (fun e=>e.f.toNat) es k hk'
    have hlk:=xE (fun e=>e.c) (fun _=>(0:Int)) es k hk'
    have hok:fM n es (k+1)=((fM n es k).set (es.getD k default).f.toNat ((fM n es k).getD (es.getD k default).f.toNat []++[2*k])).set (es.getD k default).t.toNat ((fM n es k).getD (es.getD k default).t.toNat []++[2*k+1]):=rfl
    rw [getD_lt es default hk'] at hok
    have holen:∀l∈fM n es k,l.length<=200000:=CB hv.out k (by omega)
    generalize es[k]=ed at *
    obtain ⟨f,t',c⟩:=ed
    simp only at c1' c2' c3' e1 e2 e3 e4 e5 e6 e7 htk hlk hok
    obtain ⟨f,rfl⟩:=Int.eq_ofNat_of_zero_le e1
    obtain ⟨t',rfl⟩:=Int.eq_ofNat_of_zero_le e3
    simp only [Int.toNat_natCast] at htk hlk hok
    clear hc c1 c2 c3
    replace htk:=Lib.hid htk
    replace hlk:=Lib.hid hlk
    replace hok:=Lib.hid hok
    replace holen:=Lib.hid holen
    go_wp2_with fail
    have hS1:=(hS.var [.int .i64 f,.int .i64 t',.int .i64 c] 75).front
    generalize hW:(wr.alloc _)=W at *
    clear hW
    have q0:W.cell? ⟨wr.heap.size,0,none⟩=some (.int .i64 f):=hS1.blkCell 0 rfl 0
    have q1:W.cell? ⟨wr.heap.size,1,none⟩=some (.int .i64 t'):=hS1.blkCell 0 rfl 1
    have q2:W.cell? ⟨wr.heap.size,2,none⟩=some (.int .i64 c):=hS1.blkCell 0 rfl 2
    have S0:(fun w':World=>w'.cell? ⟨wr.heap.size,0,none⟩=some (.int .i64 f)/\w'.cell? ⟨wr.heap.size,1,none⟩=some (.int .i64 t')/\w'.cell? ⟨wr.heap.size,2,none⟩=some (.int .i64 c)) W.drew:=⟨q0,q1,q2⟩
    refine iV (fun w':World=>w'.cell? ⟨wr.heap.size,0,none⟩=some (.int .i64 f)/\w'.cell? ⟨wr.heap.size,1,none⟩=some (.int .i64 t')/\w'.cell? ⟨wr.heap.size,2,none⟩=some (.int .i64 c)) 4 (by kernel_rfl) ?_
    refine aV (i:=3) (v:=?v1) rfl (by kernel_rfl) (fun _ _ _ h=>h) (by assumption) (Or.inl ⟨by rfl,?y1⟩) ?_
    case y1=>(intro wS hwS;(try dsimp only at hwS);go_simp;try rfl)
    try simp only [Act.put,List.setIfInBounds_toArray,List.set_cons_zero,List.set_cons_succ]
    refine dY (i:=0) (by kernel_rfl) rfl rfl fun K hK=>?_
    go_simp
    refine hK _ _ (.inr (by assumption)) ?_
    clear hK K
    refine dY (i:=1) (by kernel_rfl) rfl rfl fun K hK=>?_
    go_simp
    refine hK _ _ (.inr (by assumption)) ?_
    clear hK K
    refine dY (i:=2) (by kernel_rfl) rfl rfl fun K hK=>?_
    go_simp
    refine hK _ _ (.inr (by assumption)) ?_
    clear hK K
    refine dY (i:=4) (by kernel_rfl) rfl rfl fun K hK=>?_
    go_simp
    refine (add_any w.heap.size w _ (w.heap.size+1+1) go at_ al (2*k) ct (2*k) cl n n (.slice (some ⟨gv,0,none⟩) n n) (.slice (some ⟨ga,0,none⟩) n n) (.int .i64 s) (.int .i64 t) (rM (es.take k)) (lD (es.take k)) us (fM n es k) [row 3 1 0 (.slice (some ⟨gv,0,none⟩) n n) n (ints (List.replicate n 0)),row 3 1 0 (.slice (some ⟨ga,0,none⟩) n n) n (iJ (List.replicate n 0))] f t' c hS1.drew.tail (by omega) (by omega) (by omega) (by omega) (by omega) holen.out).mono ?_
    rintro e w3 ⟨rfl,at2,al2,ct2,cl2,us2,hS2⟩
    refine hK _ _ (.inl rfl) ?_
    clear hK K
    refine lS (by kernel_rfl) ?_ _
    go_wp2_with fail
    go_roundg (m - (k+1))
    case measure=>omega
    case rel =>
     refine ⟨k+1,at2,al2,ct2,cl2,us2,rfl,by omega,by go_num,?_⟩
     rw [show rM (es.take (k+1))=rM (es.take k)++[t',f] from htk.out,show lD (es.take (k+1))=lD (es.take k)++[c,0] from hlk.out,hok.out]
     exact hS2
   ·obtain rfl:m=k:=by omega
    have hlm:=hl.out
    rw [List.take_of_length_le (by omega),<- hlm] at hS
    clear hlt
    have hN:=OX hv.out
    have hR:=RunOK.start hv.out
    simp only [Int.toNat_natCast] at hN hR
    have hA:MV n (2*es.length) (rM es) (fM n es es.length):=fun v k hk=>by
     have h1:=(hN.out v k).1 hk
     exact ⟨h1.1,hN.ends k h1.1⟩
    replace hN:=Lib.hid hN
    replace hA:=Lib.hid hA
    replace hR:=Lib.hid hR
    replace hlm:=Lib.hid hlm
    go_wp2_with fail
    go_loopg [13] 72057594037927937 (fun g x wx=>∃ (left level:List Int) (ats:List Nat) (value:Int),g=(72057594037927937 - value).toNat/\0<=value/\x=.int .i64 value/\RunOK s t es left value /\
     Sat w.heap.size w wx (jQ (w.heap.size+1+1) go n n at_ (2*es.length) ct al cl (some ⟨gv,0,none⟩) n (some ⟨ga,0,none⟩) n s t us (rM es) (fM n es es.length) left level ats []))
    case atStart=>exact ⟨_,_,_,0,rfl,by omega,rfl,hR.out,hS⟩
    case round =>
     clear hS hR
     obtain ⟨left,level,ats,value,rfl,hv0,rfl,hR,hS⟩:=hrel
     have hvb:=hR.bound hv.out
     replace hR:=Lib.hid hR
     have hn2:2*es.length<=200000:=by have:=hlm.out;omega
     go_wp2_with fail
     refine (EE w.heap.size w _ _ go n n at_ (2*es.length) ct al cl _ n _ n s t us (rM es) (fM n es es.length) left level ats [] (by omega) (by omega) (by omega) hn2 hA.out hS).mono ?_
     rintro e w4 ⟨level2,rfl,hL,hS2⟩
     clear hS
     by_cases hlt:0<=lv level2 t
     ·have z:decide (0<=lv level2 t)=true:=by simpa using hlt
      have hsn:=(hL.zero s).2 rfl
      replace hL:=Lib.hid hL
      have hat:∀u,(List.replicate n 0).getD u 0=0:=fun u=>by
       rcases Nat.lt_or_ge u n with h|h
       ·rw [getD_lt _ _ (by simpa using h)];simp
       ·rw [mW _ _ (by simpa using h)]
      replace hat:=Lib.hid hat
      go_wp2_with fail
      refine (push_any w.heap.size w _ go n n at_ (2*es.length) ct al cl _ n _ n s t us (rM es) (fM n es es.length) level2 [] hN.out (by omega) (by omega) hn2 hL.out.lt hL.out.neg hL.out.len n _ left (List.replicate n 0) s _ (by rw [hsn];omega) (by omega) (by omega) (by omega) hR.out.len (by simp) hR.out.nn (hR.out.sums hv.out) (fun u=>by rw [hat.out];omega) (fun u _ p hp=>by rw [hat.out] at hp;omega) hS2).mono ?_
      rintro e w5 ⟨sent,left3,ats3,rfl,hP,hle,hend,hS3⟩
      have hpos:=KT hL.out hlt hP (by omega) hend
      have hR2:=hR.out.push hv.out (by simpa using hP)
      have hb2:=hR2.bound hv.out
      replace hR2:=Lib.hid hR2
      replace hP:=Lib.hid hP
      replace hend:=Lib.hid hend
      go_wp2_with fail
      go_roundg (72057594037927937 - (value+sent)).toNat
      case measure=>omega
      case rel=>exact ⟨left3,level2,ats3,value+sent,rfl,by omega,rfl,hR2.out,hS3⟩
     ·have z:decide (0<=lv level2 t)=false:=by simpa using hlt
      replace hL:=Lib.hid hL
      go_wp2_with fail
      refine bodyPost_ret (v:=.tuple #[.pointer (some ⟨w.heap.size+1+1,0,none⟩),.int .i64 value]) (by simp [results,Try.results78,go_sem]) rfl ?_
      exact ⟨_,go,n,at_,ct,al,cl,_,n,_,n,us,left,level2,_,value,rfl,hR.out,hL.out,by omega,hS2⟩
end Go.Proofs.Yteamkjblpglliaa
end
