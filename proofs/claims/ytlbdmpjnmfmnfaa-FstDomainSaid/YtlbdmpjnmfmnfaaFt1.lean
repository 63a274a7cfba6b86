import Derived.Test.YtlbdmpjnmfmnfaaFsP
set_option linter.unusedSimpArgs false
set_option linter.unusedVariables false
namespace Go.FS
def Vx (al:List A) (w:List Int) (x:Nd):List (Int×Nd):=al.filterMap fun a =>
 if a.f=x.1 then
  if a.i = -1 then some (a.o,(a.t,x.2))
  else if 0<=x.2/\x.2<w.length/\w.getD x.2.toNat 0=a.i then some (a.o,(a.t,x.2+1)) else none
 else none
theorem mem_mvs {al:List A} {w:List Int} {x y:Nd} {o:Int}:(o,y)∈Vx al w x <-> Mv al w x o y:=by
 simp only [Vx,List.mem_filterMap]
 constructor
 ·rintro ⟨a,ha,h⟩
  split at h
  ·rename_i hf
   split at h
   ·rename_i hi
    simp only [Option.some.injEq,Prod.mk.injEq] at h
    obtain ⟨rfl,rfl⟩:=h
    exact .eps ha hf hi
   ·rename_i hi
    split at h
    ·rename_i hc
     simp only [Option.some.injEq,Prod.mk.injEq] at h
     obtain ⟨rfl,rfl⟩:=h
     exact .sym ha hf hi hc.1 hc.2.1 hc.2.2
    ·cases h
  ·cases h
 ·intro h
  cases h with
  | @eps a _ ha hf hi=>exact ⟨a,ha,by rw [if_pos hf,if_pos hi]⟩
  | @sym a _ ha hf hi h1 h2 h3=>exact ⟨a,ha,by rw [if_pos hf,if_neg hi,if_pos ⟨h1,h2,h3⟩]⟩
def nodesOf (n m:Nat):List Nd:=(List.range n).flatMap fun p:Nat=>(List.range (m+1)).map fun i:Nat=>((p:Int),(i:Int))
def MH (al:List A) (w:List Int) (all:List Nd) (G:List Nd):List Nd:=G++all.filter fun x=>!(G.contains x)&&(Vx al w x).any fun m=>G.contains m.2
def Ql (al:List A) (w:List Int) (all:List Nd):Nat->List Nd->List Nd
 | 0,G=>G
 | k+1,G=>Ql al w all k (MH al w all G)
def WP (fin:List Bool) (al:List A) (w:List Int) (k:Nat):List Nd:=Ql al w (nodesOf fin.length w.length) k (((List.range fin.length).filter fun p=>fin.getD p false).map fun p:Nat=>((p:Int),(w.length:Int)))
theorem CO {fin:List Bool} {al:List A} {w:List Int} {all:List Nd}:∀ {k:Nat} {G:List Nd},(∀x∈G,Good fin al w x)->∀x∈Ql al w all k G,Good fin al w x
 | 0,_,h=>h
 | k+1,G,h=>CO (k:=k) fun x hx=>by
  simp only [MH,List.mem_append,List.mem_filter,Bool.and_eq_true,List.any_eq_true] at hx
  rcases hx with hx|⟨_,_,m,hm,hc⟩
  ·exact h x hx
  ·exact .mv (mem_mvs.1 hm) (h _ (by simpa using hc))
theorem Oj {fin:List Bool} {al:List A} {w:List Int} {k:Nat}:∀x∈WP fin al w k,Good fin al w x:=CO fun x hx=>by
 simp only [List.mem_map,List.mem_filter] at hx
 obtain ⟨p,⟨_,hp⟩,rfl⟩:=hx
 exact .fin ⟨by omega,by simpa using hp⟩
def Xo (fin:List Bool) (al:List A) (w:List Int) (G:List Nd):Bool :=
 ((List.range fin.length).all fun p=>!(fin.getD p false) || G.contains ((p:Int),(w.length:Int))) &&
 al.all fun a=>if a.i = -1 then G.all (fun y=>!(decide (y.1=a.t)) || G.contains (a.f,y.2)) else G.all (fun y=>!(decide (y.1=a.t)) || !(decide (0<=y.2 - 1/\y.2 - 1<w.length/\w.getD (y.2 - 1).toNat 0=a.i)) || G.contains (a.f,y.2 - 1))
theorem VU {fin:List Bool} {al:List A} {w:List Int} {G:List Nd} (h:Xo fin al w G=true) (hs:∀x∈G,Good fin al w x) {x:Nd}:x∈G <-> Good fin al w x:=by
 refine ⟨hs x,fun hx=>?_⟩
 simp only [Xo,Bool.and_eq_true,List.all_eq_true] at h
 obtain ⟨h1,h2⟩:=h
 induction hx with
 | @fin p hp =>
  have hl:p.toNat<fin.length:=by
   rcases Nat.lt_or_ge p.toNat fin.length with h|h
   ·exact h
   ·have:=hp.2;rw [List.getD_eq_getElem?_getD,List.getElem?_eq_none h] at this;cases this
  have:=h1 p.toNat (by simpa using hl)
  rw [hp.2] at this
  have e:((p.toNat:Nat):Int)=p:=Int.toNat_of_nonneg hp.1
  rw [e] at this
  simpa using this
 | mv hm _ ih =>
  cases hm with
  | @eps a x ha hf hi =>
   have:=h2 a ha
   rw [if_pos hi] at this
   have:=List.all_eq_true.1 this _ ih
   simp only [decide_true,Bool.not_true,Bool.false_or] at this
   rw [hf] at this
   simpa using this
  | @sym a z ha hf hi h3 h4 h5 =>
   have:=h2 a ha
   rw [if_neg hi] at this
   have:=List.all_eq_true.1 this _ ih
   dsimp only at this
   rw [show ∀n:Int,n+1 - 1=n from fun n=>by omega] at this
   have e:True:=trivial
   rw [hf] at this
   simp only [decide_true,h3,h4,h5,and_self,Bool.not_true,Bool.false_or] at this
   simpa using this
def abh (al:List A) (w:List Int) (G L:List Nd):List Nd:=L.foldl (fun M x=>(Vx al w x).foldl (fun M m=>if m.1 = -1/\G.contains m.2=true/\M.contains m.2=false then M++[m.2] else M) M) L
def XW (al:List A) (w:List Int) (G:List Nd):Nat->List Nd->List Nd
 | 0,L=>L
 | k+1,L=>XW al w G k (abh al w G L)
def clC (al:List A) (w:List Int) (G L:List Nd):Bool:=L.all fun x=>(Vx al w x).all fun m=>!(decide (m.1 = -1)) || !(G.contains m.2) || L.contains m.2
section
variable {fin:List Bool} {al:List A} {w:List Int} {G:List Nd} (hG:∀x,x∈G <-> Good fin al w x)
include hG
theorem Ie {S:Nd->Prop} {x:Nd} (hx:Cl fin al w S x):∀ {l:List (Int×Nd)} {M:List Nd},(∀m∈l,m∈Vx al w x)->(∀y∈M,Cl fin al w S y)->∀y∈l.foldl (fun M m=>if m.1 = -1/\G.contains m.2=true/\M.contains m.2=false then M++[m.2] else M) M,Cl fin al w S y
 | [],_,_,h=>h
 | m::l,M,hl,h=>by
  refine Ie hx (l:=l) (fun m' hm=>hl m' (by simp [hm])) fun y hy=>?_
  dsimp only at hy
  split at hy
  ·rename_i hc
   rcases List.mem_append.1 hy with hy|hy
   ·exact h y hy
   ·simp only [List.mem_singleton] at hy
    subst hy
    have hm:=mem_mvs.1 (show (m.1,m.2)∈Vx al w x from hl m (by simp))
    rw [hc.1] at hm
    exact .eps hx hm ((hG _).1 (by simpa using hc.2.1))
  ·exact h y hy
theorem Dh {S:Nd->Prop}:∀ {l:List Nd} {M:List Nd},(∀y∈l,Cl fin al w S y)->(∀y∈M,Cl fin al w S y)->∀y∈l.foldl (fun M x=>(Vx al w x).foldl (fun M m=>if m.1 = -1/\G.contains m.2=true/\M.contains m.2=false then M++[m.2] else M) M) M,Cl fin al w S y
 | [],_,_,h=>h
 | x::l,M,hl,h=>Dh (l:=l) (fun y hy=>hl y (by simp [hy])) (Ie hG (hl x (by simp)) (fun _ h=>h) h)
theorem FZ {S:Nd->Prop}:∀ {k:Nat} {L:List Nd},(∀y∈L,Cl fin al w S y)->∀y∈XW al w G k L,Cl fin al w S y
 | 0,_,h=>h
 | k+1,_,h=>FZ (k:=k) (Dh hG h h)
theorem abl {S:Nd->Prop} {L:List Nd} (h0:∀x,S x->x∈L) (hs:∀y∈L,Cl fin al w S y) (hc:clC al w G L=true) {y:Nd}:y∈L <-> Cl fin al w S y:=by
 refine ⟨hs y,fun hy=>?_⟩
 induction hy with
 | on h=>exact h0 _ h
 | eps _ hm hg ih =>
  have:=List.all_eq_true.1 (List.all_eq_true.1 hc _ ih) _ (mem_mvs.2 hm)
  have hg:=(hG _).2 hg
  simpa [hg] using this
end
def clF (al:List A) (w:List Int) (G:List Nd) (k:Nat) (L:List Nd):Option (List Nd):=if clC al w G (XW al w G k L)=true then some (XW al w G k L) else none
theorem Sv {G:List Nd}:∀ {l:List (Int×Nd)} {M:List Nd},∀y∈M,y∈l.foldl (fun M m=>if m.1 = -1/\G.contains m.2=true/\M.contains m.2=false then M++[m.2] else M) M
 | [],_,_,h=>h
 | _::l,_,y,h=>Sv (l:=l) y (by dsimp only;split<;>simp [h])
theorem MG {al:List A} {w:List Int} {G:List Nd}:∀ {l M:List Nd},∀y∈M,y∈l.foldl (fun M x=>(Vx al w x).foldl (fun M m=>if m.1 = -1/\G.contains m.2=true/\M.contains m.2=false then M++[m.2] else M) M) M
 | [],_,_,h=>h
 | _::l,_,y,h=>MG (l:=l) y (Sv y h)
theorem NJ {al:List A} {w:List Int} {G:List Nd}:∀ {k:Nat} {L:List Nd},∀y∈L,y∈XW al w G k L
 | 0,_,_,h=>h
 | k+1,_,y,h=>NJ (k:=k) y (MG y h)
theorem Rf {fin:List Bool} {al:List A} {w:List Int} {G:List Nd} (hG:∀x,x∈G <-> Good fin al w x) {k:Nat} {L M:List Nd} {S:Nd->Prop} (hS:∀x,x∈L <-> S x) (h:clF al w G k L=some M) {y:Nd}:y∈M <-> Cl fin al w S y:=by
 unfold clF at h
 split at h
 ·rename_i hc
  simp only [Option.some.injEq] at h
  subst h
  exact abl hG (fun x hx=>NJ x ((hS x).2 hx)) (FZ hG fun y hy=>.on ((hS y).1 hy)) hc
 ·cases h
def vS (al:List A) (w:List Int) (G L:List Nd) (s:Int):List Nd:=L.flatMap fun x=>(Vx al w x).filterMap fun m=>if m.1=s/\G.contains m.2=true then some m.2 else none
abbrev Rows:=List (List Int×List Nd)
def PZ (al:List A) (w:List Int) (G:List Nd) (k:Nat) (q:List Int×List Nd):Nat->Option Rows
 | 0=>some []
 | s+1=>match PZ al w G k q s with
  | none=>none
  | some r=>if (vS al w G q.2 s).isEmpty then some r else match clF al w G k (vS al w G q.2 s) with
   | none=>none
   | some M=>some (r++[(q.1++[(s:Int)],M)])
def nextL (al:List A) (w:List Int) (G:List Nd) (k n:Nat):Rows->Option Rows
 | []=>some []
 | q::l=>(PZ al w G k q n).bind fun a=>(nextL al w G k n l).bind fun b=>some (a++b)
def GU (fin:List Bool) (al:List A) (w:List Int) (q:List Int×List Nd):Prop:=∀x,x∈q.2 <-> At fin al w q.1 x
section
variable {fin:List Bool} {al:List A} {w:List Int} {G:List Nd} (hG:∀x,x∈G <-> Good fin al w x)
include hG
theorem mem_byL {L:List Nd} {s:Int} {y:Nd}:y∈vS al w G L s <-> By fin al w (·∈L) s y:=by
 simp only [vS,List.mem_flatMap,List.mem_filterMap,By]
 constructor
 ·rintro ⟨x,hx,m,hm,h⟩
  split at h
  ·rename_i hc
   simp only [Option.some.injEq] at h
   subst h
   have hm:=mem_mvs.1 (show (m.1,m.2)∈Vx al w x from hm)
   rw [hc.1] at hm
   exact ⟨x,hx,hm,(hG _).1 (by simpa using hc.2)⟩
  ·cases h
 ·rintro ⟨x,hx,hm,hg⟩
  exact ⟨x,hx,(s,y),mem_mvs.2 hm,by rw [if_pos ⟨rfl,by simpa using (hG _).2 hg⟩]⟩
open Classical in
theorem RG {k:Nat} {q:List Int×List Nd} (hq:GU fin al w q):∀ {s:Nat} {r:Rows},PZ al w G k q s=some r->r.map (·.1)=((List.range s).map fun s:Nat=>q.1++[(s:Int)]).filter (fun u=>decide (Beg fin al w u))/\∀p∈r,GU fin al w p
 | 0,r,h=>by
  simp only [PZ,Option.some.injEq] at h
  subst h
  simp
 | s+1,r,h=>by
  have hs1:(s:Int) ≠ -1:=by omega
  simp only [PZ] at h
  cases e:PZ al w G k q s with
  | none=>rw [e] at h;cases h
  | some r0 =>
   rw [e] at h
   obtain ⟨h1,h2⟩:=RG hq e
   have hS:(fun x=>x∈q.2)=At fin al w q.1:=funext fun x=>propext (hq x)
   have hb:∀y,y∈vS al w G q.2 s <-> By fin al w (At fin al w q.1) s y:=fun y=>by rw [mem_byL hG,hS]
   rw [List.range_succ,List.map_append,List.filter_append,<- h1]
   dsimp only at h
   by_cases hem:(vS al w G q.2 s).isEmpty=true
   ·rw [if_pos hem] at h
    simp only [Option.some.injEq] at h
    subst h
    have hno:¬ Beg fin al w (q.1++[(s:Int)]):=by
     rintro ⟨y,hy⟩
     rw [zU hs1] at hy
     have hnb:∀y,¬ By fin al w (At fin al w q.1) s y:=fun y hy=>by
      have:=(hb y).2 hy
      rw [(List.isEmpty_iff (l:=vS al w G q.2 s)).1 hem] at this;cases this
     induction hy with
     | on h=>exact hnb _ h
     | eps _ _ _ ih=>exact ih
    exact ⟨by simp [hno],h2⟩
   ·rw [if_neg hem] at h
    cases e2:clF al w G k (vS al w G q.2 s) with
    | none=>rw [e2] at h;cases h
    | some M =>
     rw [e2] at h
     simp only [Option.some.injEq] at h
     subst h
     have hM:GU fin al w (q.1++[(s:Int)],M):=fun x=>by
      rw [zU hs1]
      exact Rf hG hb e2
     have hyes:Beg fin al w (q.1++[(s:Int)]):=by
      obtain ⟨y,hy⟩:=List.exists_mem_of_ne_nil (vS al w G q.2 s) (fun e=>hem (by rw [e];rfl))
      exact ⟨y,by rw [zU hs1];exact .on ((hb y).1 hy)⟩
     refine ⟨by simp [hyes],fun p hp=>?_⟩
     rcases List.mem_append.1 hp with hp|hp
     ·exact h2 p hp
     ·simp only [List.mem_singleton] at hp;subst hp;exact hM
open Classical in
theorem LW {k n:Nat}:∀ {l r:Rows},nextL al w G k n l=some r->(∀q∈l,GU fin al w q)->r.map (·.1)=(l.map (·.1)).flatMap (fun v=>((List.range n).map fun s:Nat=>v++[(s:Int)]).filter fun u=>decide (Beg fin al w u))/\∀p∈r,GU fin al w p
 | [],r,h,_=>by
  simp only [nextL,Option.some.injEq] at h
  subst h
  simp
 | q::l,r,h,hl=>by
  simp only [nextL] at h
  cases e1:PZ al w G k q n with
  | none=>rw [e1] at h;cases h
  | some a =>
   cases e2:nextL al w G k n l with
   | none=>rw [e1,e2] at h;cases h
   | some b =>
    rw [e1,e2] at h
    simp only [Option.bind_some,Option.some.injEq] at h
    subst h
    obtain ⟨h1,h2⟩:=RG hG (hl q (by simp)) e1
    obtain ⟨h3,h4⟩:=LW e2 fun p hp=>hl p (by simp [hp])
    refine ⟨?_,fun p hp=>?_⟩
    ·rw [List.map_append,h1,h3]
     simp only [List.map_cons,List.flatMap_cons]
    ·rcases List.mem_append.1 hp with hp|hp
     ·exact h2 p hp
     ·exact h4 p hp
end
def Yf (fin:List Bool) (al:List A) (w:List Int) (G:List Nd) (k m:Nat):Nat->Rows->Option (List (List Int))
 | 0,_=>none
 | d+1,l=>if l.isEmpty then some [] else match nextL al w G k m l with
  | none=>none
  | some r=>match Yf fin al w G k m d r with
   | none=>none
   | some o=>some ((l.filter fun q=>q.2.any fun x=>decide (x.2=w.length)&&fin.getD x.1.toNat false).map (·.1)++o)
theorem abQ {fin:List Bool} {al:List A} {w:List Int} {q:List Int×List Nd} (hq:GU fin al w q) (h0:∀x∈q.2,0<=x.1):Out fin al w q.1 <-> (q.2.any fun x=>decide (x.2=w.length)&&fin.getD x.1.toNat false)=true:=by
 simp only [List.any_eq_true,Bool.and_eq_true,decide_eq_true_eq]
 constructor
 ·rintro ⟨p,hp,hf⟩
  exact ⟨_,(hq _).2 hp,rfl,hf.2⟩
 ·rintro ⟨x,hx,h1,h2⟩
  refine ⟨x.1,?_,h0 x hx,h2⟩
  rw [<- h1]
  exact (hq x).1 hx
theorem TR {fin:List Bool} {al:List A} {w:List Int} (h0:∀a∈al,0<=a.t) {v:List Int} {x:Nd} (h:At fin al w v x):0<=x.1:=by
 have hm:∀ {x y:Nd} {o:Int},Mv al w x o y->0<=y.1:=fun h=>by cases h with
  | eps ha=>exact h0 _ ha
  | sym ha=>exact h0 _ ha
 cases h with
 | nil=>simp
 | eps _ h _=>exact hm h
 | sym _ h _ _=>exact hm h
open Classical in
theorem Q8 {fin:List Bool} {al:List A} {w:List Int} {G:List Nd} (hG:∀x,x∈G <-> Good fin al w x) (h0:∀a∈al,0<=a.t) {k m:Nat} (h64:∀v,(((List.range m).map fun s:Nat=>v++[(s:Int)]).filter fun u=>decide (Beg fin al w u))=ext fin al w v):∀ {d:Nat} {l:Rows} {o:List (List Int)} {n:Nat},Yf fin al w G k m d l=some o->l.map (·.1)=sH fin al w n->(∀q∈l,GU fin al w q)->∃j,sH fin al w j=[]/\upto fin al w j=upto fin al w n++o
 | 0,_,_,_,h,_,_=>by cases h
 | d+1,l,o,n,h,h1,h2=>by
  simp only [Yf] at h
  by_cases hem:l.isEmpty=true
  ·rw [if_pos hem] at h
   simp only [Option.some.injEq] at h
   subst h
   rw [List.isEmpty_iff.1 hem] at h1
   exact ⟨n,h1.symm,by simp⟩
  ·rw [if_neg hem] at h
   cases e:nextL al w G k m l with
   | none=>rw [e] at h;cases h
   | some r =>
    rw [e] at h
    obtain ⟨h3,h4⟩:=LW hG e h2
    cases e2:Yf fin al w G k m d r with
    | none=>simp only [e2] at h;cases h
    | some o2 =>
     simp only [e2,Option.some.injEq] at h
     subst h
     obtain ⟨m,h5,h6⟩:=Q8 hG h0 h64 (n:=n+1) e2 (by rw [h3,h1];simp only [h64];rfl) h4
     refine ⟨m,h5,?_⟩
     rw [h6,upto,List.append_assoc]
     congr 2
     rw [outs,<- h1,List.filter_map]
     congr 1
     apply List.filter_congr
     intro q hq
     have:=abQ (h2 q hq) fun x hx=>TR h0 ((h2 q hq x).1 hx)
     simp only [Function.comp]
     by_cases ho:Out fin al w q.1
     ·rw [decide_eq_true ho,this.1 ho]
     ·rw [decide_eq_false ho];symm;rw [<- Bool.not_eq_true,<- this];exact ho
def V6 (fin:List Bool) (al:List A) (w:List Int) (k:Nat):Option (List (List Int)) :=
 let G:=WP fin al w k
 if Xo fin al w G=true then
  if al.all (fun a=>decide (0<=a.t))=true then
   if G.contains (0,0)=true then match clF al w G k [(0,0)] with
    | none=>none
    | some L=>Yf fin al w G k 64 k [([],L)]
   else some []
  else none
 else none
theorem Rh {fin:List Bool} {al:List A} {w:List Int} {k:Nat} {l:List (List Int)} (h:V6 fin al w k=some l) {most:Int} (hm:(l.length:Int)<=most):Lst fin al w most l:=by
 simp only [V6] at h
 generalize hGe:WP fin al w k=G at h
 split at h
 ·rename_i hc
  have hG:∀x,x∈G <-> Good fin al w x:=fun x=>VU hc fun x hx=>Oj x (by rw [hGe];exact hx)
  split at h
  ·rename_i h0
   have h0:∀a∈al,0<=a.t:=fun a ha=>by simpa using List.all_eq_true.1 h0 a ha
   have hb:Beg fin al w [] <-> ((0,0):Nd)∈G:=by
    rw [hG]
    constructor
    ·rintro ⟨y,hy⟩
     rw [at_nil] at hy
     induction hy with
     | on h=>exact h.2
     | eps _ _ _ ih=>exact ih
    ·intro h;exact ⟨_,.nil h⟩
   split at h
   ·rename_i hz
    have hz:((0,0):Nd)∈G:=by simpa using hz
    have hg:=(hG _).1 hz
    cases e:clF al w G k [(0,0)] with
    | none=>rw [e] at h;cases h
    | some L =>
     rw [e] at h
     obtain ⟨m,h1,h2⟩:=Q8 hG h0 (fun _=>rfl) (n:=0) h (by simp [sH,hb.2 hz]) fun q hq=>by
      simp only [List.mem_singleton] at hq
      subst hq
      intro x
      rw [at_nil]
      exact Rf hG (fun x=>by simp [hg]) e
     exact ⟨m,h1,by rw [h2];simp [upto],hm⟩
   ·rename_i hz
    simp only [Option.some.injEq] at h
    subst h
    refine ⟨0,?_,by simp [upto],by simpa using hm⟩
    unfold sH
    rw [if_neg]
    intro h
    exact hz (by simpa using hb.1 h)
  ·cases h
 ·cases h
theorem abU {fin:List Bool} {al:List A} {w:List Int} (hk:Eh al) {l:List (List Int)} {m1 m2:Int} (h:Lst fin al w m1 l) (hm:m2<(l.length:Int)) (l':List (List Int)):¬ Lst fin al w m2 l':=fun h'=>by
 have e:l=l':=by
  obtain ⟨n,h1,rfl,_⟩:=h
  obtain ⟨m,h2,rfl,_⟩:=h'
  rcases Nat.le_total n m with h|h
  ·rw [Ap hk h1 h]
  ·rw [Ap hk h2 h]
 subst e
 obtain ⟨_,_,_,h3⟩:=h'
 omega
end Go.FS
