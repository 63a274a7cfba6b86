import Derived.WalkKit
import Derived.WalkSpells
import Derived.Handy
import Derived.Deep.MidRow
import Derived.ArgAppend
import Derived.Deep.Quiet
import Derived.Deep.QuietTactic
import Derived.BigQuiet
import Derived.Lib.Hide
set_option linter.unusedSimpArgs false
set_option linter.unusedVariables false
namespace Go.SL
open Go.RowKit
abbrev uD:=Nat->Option Obj
abbrev jy:=uD->Prop
def part (B:Nat) (w:World) (c:Nat->Nat) (i:Nat):uD:=fun b=>if c b=i/\B<=b then w.heap[b]? else none
structure Sat (B:Nat) (w0 w:World) (L:List jy):Prop where
 below:Below B w0 w
 base:B<=w.heap.size
 own:∃c:Nat->Nat,∀ (i:Nat) (A:jy),L[i]?=some A->A (part B w c i)
theorem kM {B:Nat} {w:World} {c:Nat->Nat} {i b:Nat} {o:Obj} (h:part B w c i b=some o):c b=i/\B<=b/\w.heap[b]?=some o:=by
 unfold part at h
 split at h
 ·rename_i hc;exact ⟨hc.1,hc.2,h⟩
 ·cases h
theorem lt_of_heap {w:World} {b:Nat} {o:Obj} (h:w.heap[b]?=some o):b<w.heap.size:=(Array.getElem?_eq_some_iff.1 h).1
theorem Sat.init (w:World):Sat w.heap.size w w []:=⟨Below.refl _ _,Nat.le_refl _,fun _=>0,by simp⟩
theorem Sat.drew {B:Nat} {w0 w:World} {L:List jy} (h:Sat B w0 w L):Sat B w0 w.drew L:=⟨h.below.drew,h.base,h.own⟩
theorem Sat.drewN {B:Nat} {w0 w:World} {L:List jy} (h:Sat B w0 w L) (n:Nat):Sat B w0 (w.drewN n) L :=
 ⟨⟨h.below.os,h.below.tape,h.below.output,h.below.size,h.below.block⟩,h.base,h.own⟩
theorem Sat.update {B:Nat} {w0 w w':World} {L:List jy} (hS:Sat B w0 w L) (i:Nat) (A A':jy) (hA:L[i]?=some A) (row:Option Nat) (hg:w.grownBy w' row)
  (h:∀p:uD,A p->(∀b o,p b=some o->w.heap[b]?=some o)->(∀g,row=some g->(p g).isSome=true) /\
   ∀q:uD,(∀b,(p b).isSome=true->q b=w'.heap[b]?)->(∀b,w.heap.size<=b->q b=w'.heap[b]?)->A' q):Sat B w0 w' (L.set i A'):=by
 obtain ⟨c,hc⟩:=hS.own
 have hi:i<L.length:=(List.getElem?_eq_some_iff.1 hA).1
 obtain ⟨hrow,hq⟩:=h _ (hc i A hA) (fun b o hb=>(kM hb).2.2)
 have hrB:∀g,row=some g->c g=i/\B<=g/\g<w.heap.size:=fun g hg'=>by
  obtain ⟨o,ho⟩:=Option.isSome_iff_exists.1 (hrow g hg')
  obtain ⟨h1,h2,h3⟩:=kM ho
  exact ⟨h1,h2,lt_of_heap h3⟩
 refine ⟨hS.below.grown hg hS.base (fun g h=>(hrB g h).2.1),Nat.le_trans hS.base hg.size,fun b=>if w.heap.size<=b then i else c b,?_⟩
 intro j A2 hj
 by_cases hji:j=i
 ·subst hji
  have:A2=A':=by
   rw [List.getElem?_set_self hi] at hj
   exact (Option.some.inj hj).symm
  subst this
  refine hq _ ?_ ?_
  ·intro b hb
   obtain ⟨o,ho⟩:=Option.isSome_iff_exists.1 hb
   obtain ⟨h1,h2,h3⟩:=kM ho
   have:=lt_of_heap h3
   unfold part
   have hnb:¬ w.heap.size<=b:=by omega
   simp only [hnb,if_false]
   rw [if_pos ⟨h1,h2⟩]
  ·intro b hb
   unfold part
   have h2:B<=b:=Nat.le_trans hS.base hb
   simp [hb,h2]
 ·have hj':L[j]?=some A2:=by rw [List.getElem?_set_ne (by omega)] at hj;exact hj
  have e:part B w' (fun b=>if w.heap.size<=b then i else c b) j=part B w c j:=by
   funext b
   unfold part
   by_cases hb:w.heap.size<=b
   ·have:w.heap[b]?=none:=by simp;omega
    simp only [hb,if_true,this]
    rw [if_neg (by omega)]
    simp
   ·simp only [hb,if_false]
    by_cases hcb:c b=j/\B<=b
    ·rw [if_pos hcb,if_pos hcb]
     exact hg.block b (by omega) (fun e=>by have:=(hrB b e.symm).1;omega)
    ·rw [if_neg hcb,if_neg hcb]
  rw [e]
  exact hc j A2 hj'
theorem Sat.call {B:Nat} {w0 w w':World} {L L':List jy} (hS:Sat B w0 w L) (hC:Sat w.heap.size w w' L'):Sat B w0 w' (L++L'):=by
 obtain ⟨c,hc⟩:=hS.own
 obtain ⟨d,hd⟩:=hC.own
 refine ⟨hS.below.trans (hC.below.mono hS.base),Nat.le_trans hS.base hC.base,fun b=>if w.heap.size<=b then L.length+d b else if c b<L.length then c b else L.length+L'.length,?_⟩
 intro j A hj
 by_cases hjl:j<L.length
 ·have hj':L[j]?=some A:=by rwa [List.getElem?_append_left hjl] at hj
  have e:part B w' (fun b=>if w.heap.size<=b then L.length+d b else if c b<L.length then c b else L.length+L'.length) j=part B w c j:=by
   funext b
   unfold part
   by_cases hb:w.heap.size<=b
   ·have:w.heap[b]?=none:=by simp;omega
    simp only [hb,if_true,this]
    rw [if_neg (by omega)]
    simp
   ·simp only [hb,if_false]
    have hbl:=hC.below.block b (by omega)
    by_cases hcl:c b<L.length
    ·simp only [hcl,if_true];rw [hbl]
    ·simp only [hcl,if_false]
     rw [if_neg (by omega),if_neg (by omega)]
  rw [e];exact hc j A hj'
 ·have hj':L'[j - L.length]?=some A:=by rwa [List.getElem?_append_right (by omega)] at hj
  have hjl':j - L.length<L'.length:=(List.getElem?_eq_some_iff.1 hj').1
  have e:part B w' (fun b=>if w.heap.size<=b then L.length+d b else if c b<L.length then c b else L.length+L'.length) j=part w.heap.size w' d (j - L.length):=by
   funext b
   unfold part
   by_cases hb:w.heap.size<=b
   ·have hB:=Nat.le_trans hS.base hb
    simp only [hb,if_true,hB,and_true]
    by_cases h1:d b=j - L.length
    ·rw [if_pos (by omega),if_pos h1]
    ·rw [if_neg (by omega),if_neg h1]
   ·simp only [hb,if_false,and_false]
    rw [if_neg]
    intro h
    by_cases hcl:c b<L.length
    ·simp only [hcl,if_true] at h;omega
    ·simp only [hcl,if_false] at h;omega
  rw [e];exact hd _ A hj'
theorem Sat.calm {B:Nat} {w0 w w':World} {L:List jy} (hS:Sat B w0 w L) (hb:Below w.heap.size w w'):Sat B w0 w' L:=by
 have:=hS.call (L':=[]) ⟨hb,hb.size,fun _=>0,by simp⟩
 simpa using this
theorem Sat.alloc {B:Nat} {w0 w:World} {L:List jy} (hS:Sat B w0 w L) (o:Obj):Sat B w0 (w.alloc o) L :=
 hS.calm ((Below.refl _ _).alloc (Nat.le_refl _) o)
theorem Sat.made {B:Nat} {w0 w:World} {L:List jy} (hS:Sat B w0 w L) (o:Obj) (A:jy) (hA:∀q:uD,q w.heap.size=some o->A q):Sat B w0 (w.alloc o) (L++[A]) :=
 hS.call ⟨(Below.refl _ _).alloc (Nat.le_refl _) o,by simp,fun _=>0,fun i A' hi=>by
  have:i=0/\A'=A:=by
   cases i with
   | zero=>simp at hi;exact ⟨rfl,hi.symm⟩
   | succ i=>simp at hi
  obtain ⟨rfl,rfl⟩:=this
  refine hA _ ?_
  unfold part
  rw [if_pos ⟨rfl,Nat.le_refl _⟩]
  exact heap_alloc_new w o⟩
theorem Sat.sel {B:Nat} {w0 w:World} {L L':List jy} (hS:Sat B w0 w L) (s:List Nat) (hs:s.Nodup) (h:s.map (fun i=>L[i]?)=L'.map some):Sat B w0 w L':=by
 obtain ⟨c,hc⟩:=hS.own
 refine ⟨hS.below,hS.base,fun b=>s.idxOf (c b),?_⟩
 intro j A hj
 have hlen:s.length=L'.length:=by simpa using congrArg List.length h
 have hjl:j<L'.length:=(List.getElem?_eq_some_iff.1 hj).1
 have hjs:j<s.length:=by omega
 have e1:L[s[j]]?=some A:=by
  have:=congrArg (fun l:List (Option jy)=>l[j]?) h
  simpa [List.getElem?_eq_getElem hjs,hj] using this
 have e:part B w (fun b=>s.idxOf (c b)) j=part B w c s[j]:=by
  funext b
  unfold part
  have:s.idxOf (c b)=j <-> c b=s[j]:=by
   constructor
   ·intro h1
    have hm:s.idxOf (c b)<s.length:=by omega
    have:=List.getElem_idxOf hm
    simp only [h1] at this
    exact this.symm
   ·intro h1
    rw [h1]
    exact hs.idxOf_getElem j hjs
  by_cases h1:c b=s[j]
  ·have h2:=this.2 h1
   by_cases hB:B<=b
   ·rw [if_pos ⟨h2,hB⟩,if_pos ⟨h1,hB⟩]
   ·rw [if_neg (fun h=>hB h.2),if_neg (fun h=>hB h.2)]
  ·have h2:¬ s.idxOf (c b)=j:=fun h=>h1 (this.1 h)
   rw [if_neg (fun h=>h2 h.1),if_neg (fun h=>h1 h.1)]
 rw [e]
 exact hc _ A e1
theorem Sat.weak {B:Nat} {w0 w:World} {L:List jy} (hS:Sat B w0 w L) (i:Nat) (A A':jy) (hA:L[i]?=some A) (h:∀p,A p->A' p):Sat B w0 w (L.set i A'):=by
 obtain ⟨c,hc⟩:=hS.own
 refine ⟨hS.below,hS.base,c,?_⟩
 intro j A2 hj
 have hi:i<L.length:=(List.getElem?_eq_some_iff.1 hA).1
 by_cases hji:j=i
 ·subst hji
  have:A2=A':=by
   rw [List.getElem?_set_self hi] at hj
   exact (Option.some.inj hj).symm
  subst this
  exact h _ (hc j A hA)
 ·rw [List.getElem?_set_ne (by omega)] at hj
  exact hc j A2 hj
def row (e:TypeId) (size off:Nat) (v:Value) (n:Nat) (xs:List Value):jy:=fun h =>
 xs.length=n*size /\
 ((∃a,v=.slice a 0 0/\n=0) \/
  ∃g cap cur,v=.slice (some ⟨g,off,none⟩) n cap/\h g=some (.cells cur e (0,0))/\n<=cap/\cap<=maxLen/\cur.size=off+cap*size/\(cur.toList.drop off).take (n*size)=xs)
def blk (b:Nat) (cur:List Value) (e:TypeId):jy:=fun h=>h b=some (.cells cur.toArray e (0,0))
def rd (w:World) (a:Option Addr) (xs:List Value):Prop :=
 xs=[]\/∃g off,a=some ⟨g,off,none⟩/\g<w.heap.size/\∀k u,xs[k]?=some u->w.cell? ⟨g,off+k,none⟩=some u
theorem rd.below {w0 w:World} {a:Option Addr} {xs:List Value} (h:rd w0 a xs) (hb:Below w0.heap.size w0 w):rd w a xs:=by
 rcases h with h|⟨g,off,ha,hg,hc⟩
 ·exact .inl h
 ·exact .inr ⟨g,off,ha,Nat.lt_of_lt_of_le hg hb.size,fun k u hu=>(hb.cell (p:=⟨g,off+k,none⟩) hg).trans (hc k u hu)⟩
theorem rd.drewN {w:World} {a:Option Addr} {xs:List Value} (h:rd w a xs) (n:Nat):rd (w.drewN n) a xs:=h
theorem rd.drew {w:World} {a:Option Addr} {xs:List Value} (h:rd w a xs):rd w.drew a xs:=h
theorem rd.alloc {w:World} {a:Option Addr} {xs:List Value} (h:rd w a xs) (o:Obj):rd (w.alloc o) a xs:=h.below ((Below.refl _ _).alloc (Nat.le_refl _) o)
theorem rd.opened {w:World} {a:Option Addr} {xs:List Value} (h:rd w a xs) (hn:0<xs.length) :
  ∃g off,a=some ⟨g,off,none⟩/\g<w.heap.size/\∀k u,xs[k]?=some u->w.cell? ⟨g,off+k,none⟩=some u:=by
 rcases h with h|h
 ·subst h;simp at hn
 ·exact h
theorem row.mono {e:TypeId} {size off:Nat} {v:Value} {n:Nat} {xs:List Value} {p q:uD} (h:row e size off v n xs p) (hpq:∀b o,p b=some o->q b=some o):row e size off v n xs q:=by
 obtain ⟨h1,h2⟩:=h
 refine ⟨h1,?_⟩
 rcases h2 with h2|⟨g,cap,cur,hv,hh,r⟩
 ·exact .inl h2
 ·exact .inr ⟨g,cap,cur,hv,hpq _ _ hh,r⟩
theorem row.shape {e:TypeId} {size off:Nat} {v:Value} {n:Nat} {xs:List Value} {p:uD} (h:row e size off v n xs p):∃a cap,v=.slice a n cap/\n<=maxLen:=by
 rcases h.2 with ⟨a,rfl,rfl⟩|⟨g,cap,cur,rfl,_,h1,h2,_⟩
 ·exact ⟨a,0,rfl,Nat.zero_le _⟩
 ·exact ⟨_,cap,rfl,Nat.le_trans h1 h2⟩
def full (w:World):uD:=fun b=>w.heap[b]?
theorem Sat.get {B:Nat} {w0 w:World} {L:List jy} (hS:Sat B w0 w L) {i:Nat} {e:TypeId} {size off:Nat} {v:Value} {n:Nat} {xs:List Value} (hi:L[i]?=some (row e size off v n xs)):row e size off v n xs (full w):=by
 obtain ⟨c,hc⟩:=hS.own
 exact (hc i _ hi).mono fun b o h=>(kM h).2.2
theorem Sat.shape {B:Nat} {w0 w:World} {L:List jy} (hS:Sat B w0 w L) (i:Nat) {e:TypeId} {size off:Nat} {v:Value} {n:Nat} {xs:List Value} (hi:L[i]?=some (row e size off v n xs)):∃a cap,v=.slice a n cap :=
 let ⟨a,cap,h,_⟩:=(hS.get hi).shape;⟨a,cap,h⟩
theorem Sat.len {B:Nat} {w0 w:World} {L:List jy} (hS:Sat B w0 w L) (i:Nat) {e:TypeId} {size off:Nat} {v:Value} {n:Nat} {xs:List Value} (hi:L[i]?=some (row e size off v n xs)):xs.length=n*size/\n<=9223372036854775807 :=
 ⟨(hS.get hi).1,let ⟨_,_,_,h⟩:=(hS.get hi).shape;h⟩
theorem row.take_get {cur:Array Value} {off m k:Nat} {xs:List Value} {u:Value} (h:(cur.toList.drop off).take m=xs) (hu:xs[k]?=some u):cur[off+k]?=some u:=by
 rw [<- h,List.getElem?_take] at hu
 split at hu
 ·rw [List.getElem?_drop] at hu;simpa using hu
 ·cases hu
theorem row.rd {w:World} {e:TypeId} {size off:Nat} {a:Option Addr} {n cap:Nat} {xs:List Value} (h:row e size off (.slice a n cap) n xs (full w)):SL.rd w a xs:=by
 rcases h.2 with ⟨a',ha,hn⟩|⟨g,cap',cur,hv,hg,_,_,_,ht⟩
 ·left
  have:=h.1
  rw [hn,Nat.zero_mul] at this
  exact List.eq_nil_of_length_eq_zero this
 ·right
  simp only [Value.slice.injEq] at hv
  obtain ⟨rfl,_,rfl⟩:=hv
  refine ⟨g,off,rfl,lt_of_heap hg,fun k u hu=>?_⟩
  rw [cell_of_row w g (off+k) cur e (0,0) hg]
  exact row.take_get ht hu
theorem Sat.rd {B:Nat} {w0 w:World} {L:List jy} (hS:Sat B w0 w L) (i:Nat) {e:TypeId} {size off:Nat} {a:Option Addr} {n cap:Nat} {xs:List Value} (hi:L[i]?=some (row e size off (.slice a n cap) n xs)):SL.rd w a xs:=(hS.get hi).rd
theorem Sat.opened {B:Nat} {w0 w:World} {L:List jy} (hS:Sat B w0 w L) (i:Nat) {e:TypeId} {size off:Nat} {v:Value} {n:Nat} {xs:List Value} (hi:L[i]?=some (row e size off v n xs)) (hn:0<n) :
  ∃g cap,v=.slice (some ⟨g,off,none⟩) n cap/\(∀k u,xs[k]?=some u->w.cell? ⟨g,off+k,none⟩=some u)/\(∀k,w.frozen? ⟨g,k,none⟩=false):=by
 rcases (hS.get hi).2 with ⟨a',ha,hn'⟩|⟨g,cap',cur,hv,hg,_,_,_,ht⟩
 ·omega
 ·refine ⟨g,cap',hv,fun k u hu=>?_,fun k=>frozen_of_row w g k cur e hg⟩
  rw [cell_of_row w g (off+k) cur e (0,0) hg]
  exact row.take_get ht hu
theorem Sat.cell {B:Nat} {w0 w:World} {L:List jy} (hS:Sat B w0 w L) (i:Nat) {e:TypeId} {size off g n cap:Nat} {xs:List Value} (hi:L[i]?=some (row e size off (.slice (some ⟨g,off,none⟩) n cap) n xs)) (k:Nat) (u:Value) (hu:xs[k]?=some u):w.cell? ⟨g,off+k,none⟩=some u:=by
 have hl:=(hS.get hi).1
 have hk:=(List.getElem?_eq_some_iff.1 hu).1
 have hn:0<n:=by
  rcases Nat.eq_zero_or_pos n with rfl|h
  ·rw [Nat.zero_mul] at hl;omega
  ·exact h
 obtain ⟨g',cap',hv,hc,_⟩:=hS.opened i hi hn
 simp only [Value.slice.injEq,Option.some.injEq,Addr.mk.injEq,and_true,true_and] at hv
 obtain ⟨rfl,rfl⟩:=hv
 exact hc k u hu
theorem Sat.cell0 {B:Nat} {w0 w:World} {L:List jy} (hS:Sat B w0 w L) (i:Nat) {e:TypeId} {size g n cap:Nat} {xs:List Value} (hi:L[i]?=some (row e size 0 (.slice (some ⟨g,0,none⟩) n cap) n xs)) (k:Nat) (u:Value) (hu:xs[k]?=some u):w.cell? ⟨g,k,none⟩=some u:=by
 have:=hS.cell i hi k u hu
 rwa [Nat.zero_add] at this
theorem Sat.rowFree {B:Nat} {w0 w:World} {L:List jy} (hS:Sat B w0 w L) (i:Nat) {e:TypeId} {size off g n cap:Nat} {xs:List Value} (hi:L[i]?=some (row e size off (.slice (some ⟨g,off,none⟩) n cap) n xs)) (k:Nat) (hk:k<xs.length):w.frozen? ⟨g,off+k,none⟩=false:=by
 have hl:=(hS.get hi).1
 have hn:0<n:=by
  rcases Nat.eq_zero_or_pos n with rfl|h
  ·rw [Nat.zero_mul] at hl;omega
  ·exact h
 obtain ⟨g',cap',hv,_,hf⟩:=hS.opened i hi hn
 simp only [Value.slice.injEq,Option.some.injEq,Addr.mk.injEq,and_true,true_and] at hv
 obtain ⟨rfl,rfl⟩:=hv
 exact hf _
theorem Sat.rowFree0 {B:Nat} {w0 w:World} {L:List jy} (hS:Sat B w0 w L) (i:Nat) {e:TypeId} {size g n cap:Nat} {xs:List Value} (hi:L[i]?=some (row e size 0 (.slice (some ⟨g,0,none⟩) n cap) n xs)) (k:Nat) (hk:k<xs.length):w.frozen? ⟨g,k,none⟩=false:=by
 have:=hS.rowFree i hi k hk
 rwa [Nat.zero_add] at this
theorem Sat.blk {B:Nat} {w0 w:World} {L:List jy} (hS:Sat B w0 w L) (i:Nat) {b:Nat} {cur:List Value} {e:TypeId} (hi:L[i]?=some (SL.blk b cur e)):w.heap[b]?=some (.cells cur.toArray e (0,0)):=by
 obtain ⟨c,hc⟩:=hS.own
 exact (kM (hc i _ hi)).2.2
theorem Sat.blkCell {B:Nat} {w0 w:World} {L:List jy} (hS:Sat B w0 w L) (i:Nat) {b:Nat} {cur:List Value} {e:TypeId} (hi:L[i]?=some (SL.blk b cur e)) (k:Nat):w.cell? ⟨b,k,none⟩=cur[k]?:=by
 rw [cell_of_row w b k _ e (0,0) (hS.blk i hi)];simp
theorem Sat.blkFree {B:Nat} {w0 w:World} {L:List jy} (hS:Sat B w0 w L) (i:Nat) {b:Nat} {cur:List Value} {e:TypeId} (hi:L[i]?=some (SL.blk b cur e)) (k:Nat):w.frozen? ⟨b,k,none⟩=false :=
 frozen_of_row w b k _ e (hS.blk i hi)
theorem grownBy_setCell (w:World) (g j:Nat) (u:Value):w.grownBy (w.setCell ⟨g,j,none⟩ u) (some g) :=
 ⟨rfl,rfl,rfl,by simp,fun k _ hk=>heap_setCell_other w ⟨g,j,none⟩ k u (fun e=>hk (by simp [e]))⟩
theorem zh (l:List Value) (off m k:Nat) (u:Value):((l.set (off+k) u).drop off).take m=((l.drop off).take m).set k u:=by
 have e:(l.set (off+k) u).drop off=(l.drop off).set k u:=by
  rw [List.drop_set,if_neg (by omega)]
  congr 1
  omega
 rw [e,List.take_set]
theorem Sat.store {B:Nat} {w0 w:World} {L:List jy} (hS:Sat B w0 w L) (i:Nat) {e:TypeId} {size off:Nat} {g n cap:Nat} {xs:List Value} (hi:L[i]?=some (row e size off (.slice (some ⟨g,off,none⟩) n cap) n xs)) (hn:0<n) (k:Nat) (u:Value) :
  Sat B w0 (w.setCell ⟨g,off+k,none⟩ u) (L.set i (row e size off (.slice (some ⟨g,off,none⟩) n cap) n (xs.set k u))):=by
 refine hS.update i _ _ hi (some g) (grownBy_setCell w g _ u) ?_
 intro p hp hpw
 rcases hp.2 with ⟨a',ha,hn'⟩|⟨g',cap',cur,hv,hg,h1,h2,h3,ht⟩
 ·omega
 ·simp only [Value.slice.injEq,Option.some.injEq,Addr.mk.injEq,and_true,true_and] at hv
  obtain ⟨rfl,rfl⟩:=hv
  refine ⟨fun g1 h=>by obtain rfl:=Option.some.inj h;simp [hg],?_⟩
  intro q hq _
  refine ⟨by simpa using hp.1,.inr ⟨g,cap,cur.setIfInBounds (off+k) u,rfl,?_,h1,h2,by simpa using h3,?_⟩⟩
  ·rw [hq g (by simp [hg])]
   exact heap_setCell_same w g _ cur e u (hpw _ _ hg)
  ·rw [Array.toList_setIfInBounds,zh,ht]
theorem Sat.storeBlk {B:Nat} {w0 w:World} {L:List jy} (hS:Sat B w0 w L) (i:Nat) {b:Nat} {cur:List Value} {e:TypeId} (hi:L[i]?=some (SL.blk b cur e)) (k:Nat) (u:Value) :
  Sat B w0 (w.setCell ⟨b,k,none⟩ u) (L.set i (SL.blk b (cur.set k u) e)):=by
 refine hS.update i _ _ hi (some b) (grownBy_setCell w b _ u) ?_
 intro p hp hpw
 have hp':p b=some (.cells cur.toArray e (0,0)):=hp
 refine ⟨fun g1 h=>by obtain rfl:=Option.some.inj h;simp [hp'],?_⟩
 intro q hq _
 show q b=_
 rw [hq b (by simp [hp'])]
 have:=heap_setCell_same w b k cur.toArray e u (hpw _ _ hp')
 rw [this]
 simp
end Go.SL
