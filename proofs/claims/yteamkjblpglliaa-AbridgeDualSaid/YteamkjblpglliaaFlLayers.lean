import Derived.Test.YteamkjblpglliaaFlAdd
import Derived.Test.YteamkjblpglliaaSlAny
import Derived.Deep.LoopGhost
section
set_option linter.unusedSimpArgs false
set_option linter.unusedVariables false
namespace Go.Proofs.Yteamkjblpglliaa
open Go.RowKit Go.SL
def jQ (b go n co:Nat) (at_:Option Addr) (nt ct:Nat) (al:Option Addr) (cl:Nat) (av:Option Addr) (cv:Nat) (aa:Option Addr) (ca:Nat) (s t:Int) (us:List Value)
  (too:List Nat) (outs:List (List Nat)) (left level:List Int) (ats:List Nat) (R:List jy):List jy :=
 blk b [.slice at_ nt ct,.slice al nt cl,.slice (some ⟨go,0,none⟩) n co,.slice av n cv,.slice aa n ca,.int .i64 s,.int .i64 t] 110 ::
 row 3 1 0 (.slice at_ nt ct) nt (iJ too)::row 3 1 0 (.slice al nt cl) nt (ints left) ::
 row 22 1 0 (.slice (some ⟨go,0,none⟩) n co) n us::xP 3 1 us (outs.map iJ) ::
 row 3 1 0 (.slice av n cv) n (ints level)::row 3 1 0 (.slice aa n ca) n (iJ ats)::R
def twin (k:Nat):Nat:=if k % 2=0 then k+1 else k - 1
theorem NC (k:Nat):k ^^^ 1=twin k:=by
 have h1:(k ^^^ 1) / 2=k / 2:=by rw [Nat.xor_div_two];simp
 have h2:(k ^^^ 1) % 2=1 <-> ¬ (k % 2=1):=by rw [Nat.xor_mod_two_eq_one];simp
 unfold twin
 split<;>omega
theorem AQ (k:Nat) (hk:k<1099511627776):bits BinOp.xor IntKind.i64 (k:Int) 1=((twin k:Nat):Int):=by
 have h1:(BitVec.ofInt 64 (k:Int)).toNat=k:=by
  rw [BitVec.ofInt_natCast,BitVec.toNat_ofNat];exact Nat.mod_eq_of_lt (by omega)
 show IntKind.i64.wrap ((BitVec.ofInt 64 (k:Int) ^^^ BitVec.ofInt 64 1).toNat:Int)=_
 rw [BitVec.toNat_xor,h1,show (BitVec.ofInt 64 1).toNat=1 from rfl,NC,IntKind.wrap_i64]
 unfold twin
 split<;>omega
theorem Ap (k:Nat):twin k≠k:=by unfold twin;split<;>omega
theorem kL (k:Nat):twin (twin k)=k:=by unfold twin;split<;>split<;>omega
def moved (left:List Int) (k:Nat) (x:Int):List Int:=(left.set k (left.getD k 0 - x)).set (twin k) (left.getD (twin k) 0+x)
set_option maxHeartbeats 4000000 in
theorem move_any (B:Nat) (w0 w:World) (b go n co:Nat) (at_:Option Addr) (nt ct:Nat) (al:Option Addr) (cl:Nat) (av:Option Addr) (cv:Nat) (aa:Option Addr) (ca:Nat) (s t:Int) (us:List Value)
  (too:List Nat) (outs:List (List Nat)) (left level:List Int) (ats:List Nat) (R:List jy) (k:Nat) (x:Int) (hk:k<nt) (hk2:twin k<nt) (hnt:nt<=200000)
  (hx0:0<=x) (hx1:x<=2305843009213693952) (hl0:0<=left.getD k 0) (hl1:left.getD k 0<=2305843009213693952) (hl2:0<=left.getD (twin k) 0) (hl3:left.getD (twin k) 0<=2305843009213693952)
  (hS:Sat B w0 w (jQ b go n co at_ nt ct al cl av cv aa ca s t us too outs left level ats R)) :
  Calls Try.prog 82 #[.pointer (some ⟨b,0,none⟩),.int .i64 k,.int .i64 x] w fun e w'=>e=.returned (.tuple #[]) /\
   Sat B w0 w' (jQ b go n co at_ nt ct al cl av cv aa ca s t us too outs (moved left k x) level ats R):=by
 have hll:left.length=nt:=by have:=(hS.len 2 rfl).1;simpa using this
 obtain ⟨gl,cl',hgv,_,_⟩:=hS.opened 2 rfl (by omega)
 simp only [Value.slice.injEq,Option.some.injEq] at hgv
 obtain ⟨rfl,-,rfl⟩:=hgv
 have c1:w.cell? ⟨b,1,none⟩=some (.slice (some ⟨gl,0,none⟩) nt cl):=hS.blkCell 0 rfl 1
 have hkl:k<left.length:=by omega
 have htl:twin k<left.length:=by omega
 have d1:=hS.cell0 2 rfl k _ (ints_get left k hkl)
 have hbx:=AQ k (by omega)
 have hmv:moved left k x=(left.set k (left[k] - x)).set (twin k) (left[twin k]+x):=by unfold moved;rw [getD_lt _ _ hkl,getD_lt _ _ htl]
 have hst:=ints_get (left.set k (left[k] - x)) (twin k) (by simpa using htl)
 rw [List.getElem_set_ne (Ne.symm (Ap k))] at hst
 rw [getD_lt _ _ hkl] at hl0 hl1
 rw [getD_lt _ _ htl] at hl2 hl3
 generalize left[k]=lk at *
 generalize left[twin k]=lt at *
 generalize twin k=k2 at *
 replace hst:=Lib.hid hst
 replace hmv:=Lib.hid hmv
 replace hll:=Lib.hid hll
 have hsl:(ints (left.set k (lk - x))).length=nt:=by simpa using hll.out
 replace hsl:=Lib.hid hsl
 have hmap:(ints left).set k (.int .i64 (lk - x))=ints (left.set k (lk - x)):=by simp [ints]
 replace hmap:=Lib.hid hmap
 go_enter Try.func82,Try.ntmps82
 go_wp2_with (first
  | ((with_reducible show wpList _ _ _ (Oper.mk none _ _ _ _ _::_) _ _);(refine jl (u:=.int .i64 (lk - x)) (xs:=ints left) rfl 3 _ _ rfl 2 hS rfl k rfl (by simpa using hkl) rfl rfl (by kernel_rfl) ?_;intro w1 hS1;replace hS1:Sat B w0 w1 (jQ b go n co at_ nt ct (some ⟨gl,0,none⟩) cl av cv aa ca s t us too outs (left.set k (lk - x)) level ats R):=(by simpa [jQ] using hS1);have c2:w1.cell? ⟨b,1,none⟩=some (.slice (some ⟨gl,0,none⟩) nt cl):=hS1.blkCell 0 rfl 1;have d2:=hS1.cell0 2 rfl k2 _ hst.out;clear c1 d1 hS))
  | ((with_reducible show wpList _ _ _ (Oper.mk none _ _ _ _ _::_) _ _);go_must (refine jl (u:=.int .i64 (lt+x)) (xs:=ints (left.set k (lk - x))) rfl 3 _ _ rfl 2 hS1 rfl k2 rfl (by rw [hsl.out];exact hk2) rfl rfl (by kernel_rfl) ?_;intro w2 hS2)))
 go_end0
 refine ⟨rfl,?_⟩
 rw [hmv.out]
 have:=hS2
 simpa [jQ] using this
end Go.Proofs.Yteamkjblpglliaa
end
section
set_option linter.unusedSimpArgs false
set_option linter.unusedVariables false
namespace Go.Proofs.Yteamkjblpglliaa
def lv (level:List Int) (v:Nat):Int:=level.getD v (-1)
theorem zo {level:List Int} {v:Nat} (h:v<level.length):lv level v=level[v]:=getD_lt _ _ h
theorem Gh {level:List Int} {w v:Nat} {x:Int} (hw:w<level.length):lv (level.set w x) v=if v=w then x else lv level v:=by
 unfold lv
 split
 ·rename_i h;subst h;exact iQ _ _ _ hw
 ·rename_i h;exact getD_set_ne _ _ _ h
theorem KD:∀ (n:Nat) (l:List Nat),l.Nodup->(∀x∈l,x<n)->l.length<=n:=by
 intro n
 induction n with
 | zero =>
  intro l _ h
  cases l with
  | nil=>simp
  | cons a l=>exact absurd (h a (by simp)) (by omega)
 | succ n ih =>
  intro l hn h
  by_cases hm:n∈l
  ·have h1:=ih (l.erase n) (hn.erase n) (fun x hx=>by
    have h2:=h x (List.mem_of_mem_erase hx)
    have h3:x≠n:=fun e=>by
     subst e
     exact (List.Nodup.mem_erase_iff hn).1 hx |>.1 rfl
    omega)
   rw [List.length_erase_of_mem hm] at h1
   omega
  ·have:=ih l hn (fun x hx=>by
    have h2:=h x hx
    have h3:x≠n:=fun e=>hm (e▸hx)
    omega)
   omega
def MV (n nt:Nat) (too:List Nat) (outs:List (List Nat)):Prop:=∀v,∀k∈outs.getD v [],k<nt/\too.getD k 0<n
structure Bfs (n s:Nat) (outs:List (List Nat)) (too:List Nat) (left level:List Int) (ds:List Nat) (h:Nat):Prop where
 len:level.length=n
 nod:ds.Nodup
 lt:∀v∈ds,v<n
 iff:∀v,0<=lv level v <-> v∈ds
 neg:∀v,-1<=lv level v
 src:s∈ds
 zero:∀v,lv level v=0 <-> v=s
 lvl:∀ (i:Nat) (hi:i<ds.length),lv level ds[i]<=i
 pred:∀v,0<lv level v->∃u k,k∈outs.getD u []/\too.getD k 0=v/\0<left.getD k 0/\lv level u+1=lv level v
 hle:h<=ds.length
 clo:∀ (i:Nat) (_:i<h) (hi2:i<ds.length),∀k∈outs.getD ds[i] [],0<left.getD k 0->0<=lv level (too.getD k 0)
theorem Bfs.start {n s:Nat} {outs:List (List Nat)} {too:List Nat} {left:List Int} (hs:s<n):Bfs n s outs too left ((List.replicate n (-1)).set s 0) [s] 0:=by
 have hl:∀v,lv ((List.replicate n (-1:Int)).set s 0) v=if v=s then 0 else -1:=by
  intro v
  rw [Gh (by simpa using hs)]
  split
  ·rfl
  ·unfold lv
   rcases Nat.lt_or_ge v n with h|h
   ·rw [getD_lt _ _ (by simpa using h)];simp
   ·rw [mW _ _ (by simpa using h)]
 refine ⟨by simp,by simp,by simpa using hs,?_,?_,by simp,?_,?_,?_,by simp,?_⟩
 ·intro v;rw [hl];split<;>simp_all
 ·intro v;rw [hl];split<;>omega
 ·intro v;rw [hl];split<;>simp_all
 ·intro i hi
  have:i=0:=by simp at hi;omega
  subst this;rw [hl];simp
 ·intro v hv;rw [hl] at hv;split at hv<;>omega
 ·intro i hi;omega
theorem Bfs.visit {n s:Nat} {outs:List (List Nat)} {too:List Nat} {left level:List Int} {ds:List Nat} {h:Nat} (H:Bfs n s outs too left level ds h) {j k w:Nat} (hj:j<ds.length) (hk:k∈outs.getD ds[j] []) (hw:too.getD k 0=w) (hwn:w<n) (hl:0<left.getD k 0) (hn:lv level w<0) :
  Bfs n s outs too left (level.set w (lv level ds[j]+1)) (ds++[w]) h:=by
 have hwl:w<level.length:=by rw [H.len];exact hwn
 have hv:∀v,lv (level.set w (lv level ds[j]+1)) v=if v=w then lv level ds[j]+1 else lv level v:=fun v=>Gh hwl
 have hwd:w ∉ ds:=fun hm=>by have:=(H.iff w).2 hm;omega
 have hj0:0<=lv level ds[j]:=(H.iff _).2 (List.getElem_mem hj)
 refine ⟨by simp [H.len],?_,?_,?_,?_,by simp [H.src],?_,?_,?_,by have:=H.hle;simp;omega,?_⟩
 ·rw [List.nodup_append]
  exact ⟨H.nod,by simp,fun a ha b hb=>by simp at hb;subst hb;exact fun e=>hwd (e▸ha)⟩
 ·intro v hvm
  rcases List.mem_append.1 hvm with h1|h1
  ·exact H.lt v h1
  ·simp at h1;omega
 ·intro v
  rw [hv]
  split
  ·rename_i e;subst e;simp;omega
  ·rename_i e;rw [H.iff];simp [e]
 ·intro v;rw [hv];split
  ·omega
  ·exact H.neg v
 ·intro v;rw [hv];split
  ·rename_i e
   subst e
   constructor
   ·intro h1;omega
   ·intro h1;subst h1;exact absurd H.src hwd
  ·exact H.zero v
 ·intro i hi
  rcases Nat.lt_or_ge i ds.length with h1|h1
  ·rw [List.getElem_append_left h1,hv,if_neg (fun (e:ds[i]=w)=>hwd (e▸List.getElem_mem h1))]
   exact H.lvl i h1
  ·have h2:i=ds.length:=by simp at hi;omega
   subst h2
   rw [List.getElem_append_right (Nat.le_refl _)]
   simp only [Nat.sub_self,List.getElem_cons_zero]
   rw [hv,if_pos rfl]
   have:=H.lvl j hj
   omega
 ·intro v hv0
  rw [hv] at hv0
  by_cases e:v=w
  ·subst e
   refine ⟨ds[j],k,hk,hw,hl,?_⟩
   rw [hv,hv,if_pos rfl,if_neg (fun (e:ds[j]=v)=>hwd (e▸List.getElem_mem hj))]
  ·rw [if_neg e] at hv0
   obtain ⟨u,k',h1,h2,h3,h4⟩:=H.pred v hv0
   have hu:u≠w:=fun e=>by subst e;omega
   exact ⟨u,k',h1,h2,h3,by rw [hv,hv,if_neg e,if_neg hu];exact h4⟩
 ·intro i hi hi2 k' hk' hl'
  have h1:i<ds.length:=by have:=H.hle;omega
  rw [List.getElem_append_left h1] at hk'
  have:=H.clo i hi h1 k' hk' hl'
  rw [hv];split<;>omega
theorem Bfs.next {n s:Nat} {outs:List (List Nat)} {too:List Nat} {left level:List Int} {ds:List Nat} {h:Nat} (H:Bfs n s outs too left level ds h) (hh:h<ds.length)
  (hc:∀k∈outs.getD ds[h] [],0<left.getD k 0->0<=lv level (too.getD k 0)):Bfs n s outs too left level ds (h+1) :=
 { H with
  hle:=hh
  clo:=fun i hi hi2=>by
   rcases Nat.lt_or_ge i h with h1|h1
   ·exact H.clo i h1 hi2
   ·obtain rfl:i=h:=by omega
    exact hc }
theorem Bfs.le {n s:Nat} {outs:List (List Nat)} {too:List Nat} {left level:List Int} {ds:List Nat} {h:Nat} (H:Bfs n s outs too left level ds h):ds.length<=n:=KD n ds H.nod H.lt
structure sF (n s:Nat) (outs:List (List Nat)) (too:List Nat) (left level:List Int):Prop where
 len:level.length=n
 neg:∀v,-1<=lv level v
 lt:∀v,lv level v<n
 zero:∀v,lv level v=0 <-> v=s
 pred:∀v,0<lv level v->∃u k,k∈outs.getD u []/\too.getD k 0=v/\0<left.getD k 0/\lv level u+1=lv level v
 clo:∀u,0<=lv level u->∀k∈outs.getD u [],0<left.getD k 0->0<=lv level (too.getD k 0)
theorem Bfs.done {n s:Nat} {outs:List (List Nat)} {too:List Nat} {left level:List Int} {ds:List Nat} (H:Bfs n s outs too left level ds ds.length) (hn:0<n):sF n s outs too left level:=by
 refine ⟨H.len,H.neg,?_,H.zero,H.pred,?_⟩
 ·intro v
  by_cases h:0<=lv level v
  ·obtain ⟨i,hi,rfl⟩:=List.getElem_of_mem ((H.iff v).1 h)
   have:=H.lvl i hi
   have:=H.le
   omega
  ·omega
 ·intro u hu k hk hl
  obtain ⟨i,hi,rfl⟩:=List.getElem_of_mem ((H.iff u).1 hu)
  exact H.clo i hi hi k hk hl
end Go.Proofs.Yteamkjblpglliaa
end
section
set_option linter.unusedSimpArgs false
set_option linter.unusedVariables false
namespace Go.Proofs.Yteamkjblpglliaa
open Go.RowKit Go.SL
def Gn (B:Nat) (w0:World) (b go n co:Nat) (at_:Option Addr) (nt ct:Nat) (al:Option Addr) (cl:Nat) (av:Option Addr) (cv:Nat) (aa:Option Addr) (ca:Nat) (s t:Nat) (us:List Value)
  (too:List Nat) (outs:List (List Nat)) (left:List Int) (R:List jy) (e:Ending) (w':World):Prop :=
 ∃level:List Int,e=.returned (.bool (decide (0<=lv level t)))/\sF n s outs too left level /\
  Sat B w0 w' (jQ b go n co at_ nt ct al cl av cv aa ca s t us too outs left level (List.replicate n 0) R)
theorem Eb (outs:List (List Nat)) (v:Nat) (hv:v<outs.length):(outs.map iJ)[v]?=some (iJ (outs.getD v [])):=by
 rw [List.getElem?_map,getD_lt _ _ hv,List.getElem?_eq_getElem hv];rfl
def jE {α:Type} (x:α) (l:List α) (k:Nat):List α:=List.replicate k x++l.drop k
theorem zq {α:Type} (x:α) (l:List α) (k:Nat) (hk:k<l.length):(jE x l k).set k x=jE x l (k+1):=by
 unfold jE
 rw [List.set_append_right _ _ (by simp)]
 simp only [List.length_replicate,Nat.sub_self]
 rw [List.drop_eq_getElem_cons hk,List.set_cons_zero,List.replicate_succ',List.append_assoc]
 rfl
theorem zO {α:Type} (x:α) (l:List α) (k:Nat) (hk:k<=l.length):(jE x l k).length=l.length:=by simp [jE];omega
theorem yc {α:Type} (x:α) (l:List α):jE x l 0=l:=by simp [jE]
theorem zy {α:Type} (x:α) (l:List α):jE x l l.length=List.replicate l.length x:=by simp [jE]
set_option maxHeartbeats 4000000 in
set_option maxRecDepth 100000 in
theorem EE (B:Nat) (w0 w:World) (b go n co:Nat) (at_:Option Addr) (nt ct:Nat) (al:Option Addr) (cl:Nat) (av:Option Addr) (cv:Nat) (aa:Option Addr) (ca:Nat) (s t:Nat) (us:List Value)
  (too:List Nat) (outs:List (List Nat)) (left level0:List Int) (ats:List Nat) (R:List jy) (hs:s<n) (ht:t<n) (hn:n<=258) (hnt:nt<=200000) (hok:MV n nt too outs)
  (hS:Sat B w0 w (jQ b go n co at_ nt ct al cl av cv aa ca s t us too outs left level0 ats R)) :
  Calls Try.prog 80 #[.pointer (some ⟨b,0,none⟩)] w (Gn B w0 b go n co at_ nt ct al cl av cv aa ca s t us too outs left R):=by
 have hlv:level0.length=n:=by have:=(hS.len 5 rfl).1;simpa using this
 have hla:ats.length=n:=by have:=(hS.len 6 rfl).1;simpa using this
 obtain ⟨gv,cv',hgv,_,_⟩:=hS.opened 5 rfl (by omega)
 simp only [Value.slice.injEq,Option.some.injEq] at hgv
 obtain ⟨rfl,-,rfl⟩:=hgv
 obtain ⟨ga,ca',hga,_,_⟩:=hS.opened 6 rfl (by omega)
 simp only [Value.slice.injEq,Option.some.injEq] at hga
 obtain ⟨rfl,-,rfl⟩:=hga
 have c3:w.cell? ⟨b,3,none⟩=some (.slice (some ⟨gv,0,none⟩) n cv):=hS.blkCell 0 rfl 3
 replace hlv:=Lib.hid hlv
 replace hla:=Lib.hid hla
 go_enter Try.func80,Try.ntmps80
 go_wp2_with fail
 go_loopw [14] (fun i wr=>∃k:Nat,k<=n/\i=.int .i64 k/\Sat B w0 wr (jQ b go n co at_ nt ct al cl (some ⟨gv,0,none⟩) cv (some ⟨ga,0,none⟩) ca s t us too outs left (jE (-1) level0 k) (jE 0 ats k) R)) (fun i _=>n - (intOf i).toNat)
 case atStart=>exact ⟨0,Nat.zero_le _,rfl,by rw [yc,yc];exact hS⟩
 case round =>
  clear hS c3
  obtain ⟨k,hk,rfl,hS⟩:=hrel
  have e3:wr.cell? ⟨b,3,none⟩=some (.slice (some ⟨gv,0,none⟩) n cv):=hS.blkCell 0 rfl 3
  by_cases hlt:k<n
  ·have hw1:=zq (-1) level0 k (by have:=hlv.out;omega)
   have hw2:=zq 0 ats k (by have:=hla.out;omega)
   have hl1:=zO (-1) level0 k (by have:=hlv.out;omega)
   have hl2:=zO 0 ats k (by have:=hla.out;omega)
   have hl1':k<(ints (jE (-1) level0 k)).length:=by simp;have:=hlv.out;omega
   have hl2':k<(iJ (jE 0 ats k)).length:=by simp;have:=hla.out;omega
   replace hw1:=Lib.hid hw1
   replace hw2:=Lib.hid hw2
   replace hl1':=Lib.hid hl1'
   replace hl2':=Lib.hid hl2'
   clear hl1 hl2
   go_wp2_with (first
    | ((with_reducible show wpList _ _ _ (Oper.mk none _ _ _ _ _::_) _ _);(refine jl (u:=.int .i64 (-1)) (xs:=ints (jE (-1) level0 k)) rfl 3 _ _ rfl 5 hS rfl k rfl hl1'.out rfl rfl (by kernel_rfl) ?_;intro w1 hS1;replace hS1:Sat B w0 w1 (jQ b go n co at_ nt ct al cl (some ⟨gv,0,none⟩) cv (some ⟨ga,0,none⟩) ca s t us too outs left (jE (-1) level0 (k+1)) (jE 0 ats k) R):=(by rw [<- hw1.out];simpa [jQ] using hS1);have e4:w1.cell? ⟨b,4,none⟩=some (.slice (some ⟨ga,0,none⟩) n ca):=hS1.blkCell 0 rfl 4;clear hS e3))
    | ((with_reducible show wpList _ _ _ (Oper.mk none _ _ _ _ _::_) _ _);go_must (refine jl (u:=.int .i64 0) (xs:=iJ (jE 0 ats k)) rfl 3 _ _ rfl 6 hS1 rfl k rfl hl2'.out rfl rfl (by kernel_rfl) ?_;intro w2 hS2;replace hS2:Sat B w0 w2 (jQ b go n co at_ nt ct al cl (some ⟨gv,0,none⟩) cv (some ⟨ga,0,none⟩) ca s t us too outs left (jE (-1) level0 (k+1)) (jE 0 ats (k+1)) R):=(by rw [<- hw2.out];simpa [jQ] using hS2);clear hS1)))
   go_roundw
   case rel=>exact ⟨k+1,by omega,by go_num,hS2⟩
   case measure=>simp [intOf];omega
  ·obtain rfl:n=k:=by omega
   have hww:jE (-1) level0 n=List.replicate n (-1):=by have:=hlv.out;rw [<- this];exact zy _ _
   have hww2:jE 0 ats n=List.replicate n 0:=by have:=hla.out;rw [<- this];exact zy _ _
   rw [hww,hww2] at hS
   clear hww hww2
   go_wp2_with fail
   have e5:wr.cell? ⟨b,5,none⟩=some (.int .i64 s):=hS.blkCell 0 rfl 5
   have e6:=hS.cell0 5 rfl s _ (ints_get (List.replicate n (-1)) s (by simpa using hs))
   have e7:=hS.rowFree0 5 rfl s (by simpa using hs)
   have e8:(s:Int)<n:=by omega
   go_region
   have hS1:=(hS.store 5 rfl (by omega) s (.int .i64 0)).drew
   simp only [Nat.zero_add] at hS1
   generalize hW:(wr.setCell _ _).drew=W at *
   clear hW e3 e5 e6 e7 hS
   replace hS1:Sat B w0 W (jQ b go n co at_ nt ct al cl (some ⟨gv,0,none⟩) cv (some ⟨ga,0,none⟩) ca s t us too outs left ((List.replicate n (-1)).set s 0) (List.replicate n 0) R):=by simpa [jQ] using hS1
   have e5:W.cell? ⟨b,5,none⟩=some (.int .i64 s):=hS1.blkCell 0 rfl 5
   go_wp2_with fail
   have hS2:=(hS1.lit [.int .i64 s] 3 1 1 rfl (by unfold maxLen;omega)).front
   clear hS1 e5
   go_loopg [4] n (fun g q wr=>∃ (ds:List Nat) (h:Nat) (level:List Int) (aq:Option Addr) (cq off:Nat),g=n - h/\q=.slice aq (ds.length - h) cq/\Bfs n s outs too left level ds h /\
    Sat B w0 wr (row 3 1 off (.slice aq (ds.length - h) cq) (ds.length - h) (iJ (ds.drop h))::jQ b go n co at_ nt ct al cl (some ⟨gv,0,none⟩) cv (some ⟨ga,0,none⟩) ca s t us too outs left level (List.replicate n 0) R))
   case atStart=>exact ⟨[s],0,_,_,_,0,rfl,rfl,Bfs.start hs,hS2⟩
   case round =>
    clear hS2
    obtain ⟨ds,h,level,aq,cq,off,rfl,rfl,hB,hS⟩:=hrel
    have hle:=hB.hle
    have hdn:=hB.le
    replace hB:=Lib.hid hB
    by_cases hlt:h<ds.length
    ·obtain ⟨m,hm⟩:∃m,ds.length - h=m+1:=⟨ds.length - h - 1,by omega⟩
     have hdr:=List.drop_eq_getElem_cons hlt
     obtain ⟨v,hvv⟩:∃v,ds[h]=v:=⟨_,rfl⟩
     rw [hvv] at hdr
     rw [hm] at hS ⊢
     rw [hdr] at hS
     obtain ⟨gq,cq',hq,_,_⟩:=hS.opened 0 rfl (by omega)
     simp only [Value.slice.injEq,Option.some.injEq] at hq
     obtain ⟨rfl,-,rfl⟩:=hq
     have q0:wr.cell? ⟨gq,off,none⟩=some (.int .i64 (v:Nat)):=hS.cell 0 rfl 0 (.int .i64 (v:Nat)) rfl
     replace hm:=Lib.hid hm
     have hSt:=hS.tailRow 0 rfl
     obtain ⟨aq,hif⟩:∃aq',(if cq=1 then some (⟨gq,off,none⟩:Addr) else some ⟨gq,off+1,none⟩)=aq':=⟨_,rfl⟩
     rw [hif] at hSt
     replace hSt:Sat B w0 wr (row 3 1 (off+1) (.slice aq m (cq - 1)) m (iJ (ds.drop (h+1)))::jQ b go n co at_ nt ct al cl (some ⟨gv,0,none⟩) cv (some ⟨ga,0,none⟩) ca s t us too outs left level (List.replicate n 0) R):=hSt
     have hv:v<n:=hvv▸hB.out.lt _ (List.getElem_mem hlt)
     have hv2:(v:Int)<n:=by omega
     have hul:us.length=n:=by have:=(hS.len 4 rfl).1;omega
     have hbl:outs.length=n:=by have:=hS.bagLen 5 rfl;simp at this;omega
     obtain ⟨u,huv⟩:∃u,us[v]?=some u:=⟨_,List.getElem?_eq_getElem (by omega)⟩
     have hov:=Eb outs v (by omega)
     obtain ⟨ov,hoo⟩:∃ov,outs.getD v []=ov:=⟨_,rfl⟩
     rw [hoo] at hov
     obtain ⟨ao,cao,hu,hrd,_,hol⟩:=hS.bagRd 5 rfl v huv hov
     simp only [List.length_map,Nat.div_one] at hu hol
     rw [hu] at huv
     have e0:wr.cell? ⟨b,2,none⟩=some (.slice (some ⟨go,0,none⟩) n co):=hS.blkCell 1 rfl 2
     have e1:=hS.cell0 4 rfl v _ huv
     have hB2:=hB.out.next hlt
     rw [hvv,hoo] at hB2
     replace hdr:=Lib.hid hdr
     replace hvv:=Lib.hid hvv
     replace hoo:=Lib.hid hoo
     replace hB2:=Lib.hid hB2
     replace hul:=Lib.hid hul
     replace hbl:=Lib.hid hbl
     replace huv:=Lib.hid huv
     replace hov:=Lib.hid hov
     replace hu:=Lib.hid hu
     clear hS
     go_wp2_with fail
     clear hif q0 e0 e1
     have hds:ds[h]?=some v:=by rw [List.getElem?_eq_getElem hlt,hvv.out]
     have hm2:m=ds.length - (h+1):=by have:=hm.out;omega
     have hBc:=hB.out
     clear hB2 hdr hvv hm hrd
     generalize cq - 1=cq1 at *
     go_loopg [4,61] (ov.length) (fun g q i wx=>∃ (p:Nat) (ds:List Nat) (level:List Int) (aq:Option Addr) (m cq off:Nat),g=ov.length - p/\p<=ov.length/\i=.int .i64 p/\q=.slice aq m cq/\m=ds.length - (h+1)/\Bfs n s outs too left level ds h/\ds[h]?=some v /\
      (∀k∈ov.take p,0<left.getD k 0->0<=lv level (too.getD k 0))/\Sat B w0 wx (row 3 1 off (.slice aq m cq) m (iJ (ds.drop (h+1)))::jQ b go n co at_ nt ct al cl (some ⟨gv,0,none⟩) cv (some ⟨ga,0,none⟩) ca s t us too outs left level (List.replicate n 0) R))
     case atStart=>exact ⟨0,ds,level,aq,m,cq1,off+1,rfl,Nat.zero_le _,rfl,rfl,hm2,hBc,hds,by simp,hSt⟩
     case round =>
      clear hSt hBc hds hm2 hB hdn hle
      obtain ⟨p,ds,level,aq,m,cq,off,rfl,hp,rfl,rfl,hm,hB,hds,hcl,hS⟩:=hrel
      have hhd:h<ds.length:=(List.getElem?_eq_some_iff.1 hds).1
      have hdv:ds[h]=v:=(List.getElem?_eq_some_iff.1 hds).2
      have hdn:=hB.le
      replace hB:=Lib.hid hB
      replace hcl:=Lib.hid hcl
      replace hm:=Lib.hid hm
      replace hds:=Lib.hid hds
      replace hdv:=Lib.hid hdv
      by_cases hlp:p<ov.length
      ·obtain ⟨k,hk⟩:∃k,ov[p]=k:=⟨_,rfl⟩
       have hkm:k∈ov:=hk▸List.getElem_mem hlp
       obtain ⟨hk1,hk2⟩:=hok v k (by rw [hoo.out];exact hkm)
       have hto:too.length=nt:=by have:=(hS.len 2 rfl).1;simpa using this
       have hlf:left.length=nt:=by have:=(hS.len 3 rfl).1;simpa using this
       obtain ⟨w,hw⟩:∃w,too.getD k 0=w:=⟨_,rfl⟩
       obtain ⟨x,hx⟩:∃x,left.getD k 0=x:=⟨_,rfl⟩
       obtain ⟨ao',cao',hu2,hrd,_,_⟩:=hS.bagRd 5 rfl v huv.out hov.out
       simp only [List.length_map,Nat.div_one,Value.slice.injEq,true_and] at hu2
       obtain ⟨rfl,rfl⟩:=hu2
       obtain ⟨g2,off2,rfl,hg2,hc2⟩:=hrd.opened (by simp;omega)
       have d1:wr.cell? ⟨g2,off2+p,none⟩=some (.int .i64 (k:Nat)):=by rw [hc2 p _ (oK ov p hlp),hk]
       obtain ⟨gt,ct',hgt,_,_⟩:=hS.opened 2 rfl (by omega)
       simp only [Value.slice.injEq,Option.some.injEq] at hgt
       obtain ⟨rfl,-,rfl⟩:=hgt
       obtain ⟨gl,cl',hgl,_,_⟩:=hS.opened 3 rfl (by omega)
       simp only [Value.slice.injEq,Option.some.injEq] at hgl
       obtain ⟨rfl,-,rfl⟩:=hgl
       have d2:wr.cell? ⟨gt,k,none⟩=some (.int .i64 (w:Nat)):=by rw [hS.cell0 2 rfl k _ (oK too k (by omega)),<- getD_lt too 0 (by omega),hw]
       have d3:wr.cell? ⟨gl,k,none⟩=some (.int .i64 x):=by rw [hS.cell0 3 rfl k _ (ints_get left k (by omega)),<- getD_lt left 0 (by omega),hx]
       have hlen:=hB.out.len
       have hwn:w<n:=hw▸hk2
       have d4:wr.cell? ⟨gv,w,none⟩=some (.int .i64 (lv level w)):=by rw [hS.cell0 6 rfl w _ (ints_get level w (by omega)),zo (by omega)]
       have d5:wr.cell? ⟨gv,v,none⟩=some (.int .i64 (lv level v)):=by rw [hS.cell0 6 rfl v _ (ints_get level v (by omega)),zo (by omega)]
       have e0:wr.cell? ⟨b,0,none⟩=some (.slice (some ⟨gt,0,none⟩) nt ct):=hS.blkCell 1 rfl 0
       have e1:wr.cell? ⟨b,1,none⟩=some (.slice (some ⟨gl,0,none⟩) nt cl):=hS.blkCell 1 rfl 1
       have e3:wr.cell? ⟨b,3,none⟩=some (.slice (some ⟨gv,0,none⟩) n cv):=hS.blkCell 1 rfl 3
       have hkm2:k∈outs.getD v []:=by rw [hoo.out];exact hkm
       have htk:ov.take (p+1)=ov.take p++[k]:=by rw [List.take_succ_eq_append_getElem hlp,hk]
       have hf4:=hS.rowFree0 6 rfl w (by simp;omega)
       have hlv1:lv level v<=n:=by
        have:=hB.out.lvl h hhd
        rw [hdv.out] at this
        omega
       have hlv0:0<=lv level v:=(hB.out.iff v).2 (hdv.out▸List.getElem_mem hhd)
       have hlvw : -1<=lv level w:=hB.out.neg w
       replace hk:=Lib.hid hk
       replace hw:=Lib.hid hw
       replace hx:=Lib.hid hx
       replace htk:=Lib.hid htk
       replace hto:=Lib.hid hto
       replace hlf:=Lib.hid hlf
       replace hlen:=Lib.hid hlen
       replace hkm2:=Lib.hid hkm2
       clear hc2 hkm
       have i1:(k:Int)<nt:=by omega
       have i2:(w:Int)<n:=by omega
       obtain ⟨lw,hlw⟩:∃y,lv level w=y:=⟨_,rfl⟩
       obtain ⟨lvv,hlvv⟩:∃y,lv level v=y:=⟨_,rfl⟩
       rw [hlw] at d4 hlvw
       rw [hlvv] at d5 hlv1 hlv0
       replace hlw:=Lib.hid hlw
       replace hlvv:=Lib.hid hlvv
       by_cases hc:0<x/\lw<0
       ·obtain ⟨hc1,hc2⟩:=hc
        go_wp2_with fail
        go_region
        have hS1:=(hS.store 6 rfl (by omega) w (.int .i64 (lvv+1))).drew
        simp only [Nat.zero_add] at hS1
        generalize hW:(wr.setCell _ _).drew=W2 at *
        clear hW d1 d2 d3 d4 d5 e0 e1 e3 hf4
        have hset:(ints level).set w (.int .i64 (lvv+1))=ints (level.set w (lvv+1)):=by simp [ints]
        replace hS1:Sat B w0 W2 (row 3 1 off (.slice aq m cq) m (iJ (ds.drop (h+1)))::jQ b go n co (some ⟨gt,0,none⟩) nt ct (some ⟨gl,0,none⟩) cl (some ⟨gv,0,none⟩) cv (some ⟨ga,0,none⟩) ca s t us too outs left (level.set w (lvv+1)) (List.replicate n 0) R):=by rw [jQ,<- hset];exact hS1
        clear hset
        have hm258:m<=300:=by have:=hm.out;omega
        go_wp2_with (at_builtin;go_must (refine C9 rfl T.ints _ _ rfl 0 rfl (hS1.alloc _) rfl ⟨W2.heap.size,0,none⟩ 1 1 [.int .i64 (w:Nat)] rfl (ul _ _ _) (by simp [Value.oneCell']) rfl (by decide) (by decide) (by omega) (by unfold maxLen;omega) ?_;intro a3 off3 cap3 w3 hS2))
        go_roundg (ov.length - (p+1))
        case measure=>omega
        case rel =>
         have hw1:=hw.out
         have hlw1:=hlw.out
         have hlvv1:=hlvv.out
         have hB3:=hB.out.visit (j:=h) (k:=k) (w:=w) hhd (by rw [hdv.out];exact hkm2.out) hw1 hwn (by rw [hx.out];exact hc1) (by omega)
         rw [hdv.out,hlvv1] at hB3
         refine ⟨p+1,ds++[w],level.set w (lvv+1),_,m+1,cap3,off3,rfl,by omega,by go_num,rfl,by have:=hm.out;simp;omega,hB3,by rw [List.getElem?_append_left hhd];exact hds.out,?_,?_⟩
         ·intro k' hk' hl'
          rw [Gh (by have:=hlen.out;omega)]
          rw [htk.out] at hk'
          rcases List.mem_append.1 hk' with h1|h1
          ·have:=hcl.out k' h1 hl'
           split<;>omega
          ·simp at h1
           subst h1
           rw [if_pos hw1];omega
         ·have hdd:(ds++[w]).drop (h+1)=ds.drop (h+1)++[w]:=List.drop_append_of_le_length (by omega)
          rw [hdd]
          simpa using hS2
       ·have hno:∀k'∈ov.take (p+1),0<left.getD k' 0->0<=lv level (too.getD k' 0):=by
         intro k' hk' hl'
         rw [htk.out] at hk'
         rcases List.mem_append.1 hk' with h1|h1
         ·exact hcl.out k' h1 hl'
         ·simp at h1
          subst h1
          rw [hx.out] at hl'
          rw [hw.out,hlw.out]
          omega
        replace hno:=Lib.hid hno
        by_cases hx0:0<x
        ·have hc2:0<=lw:=by omega
         clear hc
         go_wp2_with fail
         go_roundg (ov.length - (p+1))
         case measure=>omega
         case rel=>exact ⟨p+1,ds,level,_,m,cq,off,rfl,by omega,by go_num,rfl,hm.out,hB.out,hds.out,hno.out,hS⟩
        ·clear hc
         go_wp2_with fail
         go_roundg (ov.length - (p+1))
         case measure=>omega
         case rel=>exact ⟨p+1,ds,level,_,m,cq,off,rfl,by omega,by go_num,rfl,hm.out,hB.out,hds.out,hno.out,hS⟩
      ·obtain rfl:ov.length=p:=by omega
       go_wp2_with fail
       go_roundg (n - (h+1))
       case measure=>omega
       case rel =>
        have hB3:=hB.out.next hhd (by
         rw [hdv.out,hoo.out]
         have:=hcl.out
         rwa [List.take_length] at this)
        exact ⟨ds,h+1,level,aq,cq,off,rfl,by rw [hm.out],hB3,by rw [<- hm.out];exact hS⟩
    ·obtain rfl:ds.length=h:=by omega
     have d1:=hS.cell0 6 rfl t _ (ints_get level t (by have:=hB.out.len;omega))
     rw [<- zo (by have:=hB.out.len;omega)] at d1
     have e3:wr.cell? ⟨b,3,none⟩=some (.slice (some ⟨gv,0,none⟩) n cv):=hS.blkCell 1 rfl 3
     have e5:wr.cell? ⟨b,6,none⟩=some (.int .i64 t):=hS.blkCell 1 rfl 6
     have i3:(t:Int)<n:=by omega
     have hD:=hB.out.done (by omega)
     replace hD:=Lib.hid hD
     go_wp2_with fail
     go_quiet (fail)
     go_wp2_with fail
     go_ret
     exact ⟨level,rfl,hD.out,(hS.drewN _).tail⟩
end Go.Proofs.Yteamkjblpglliaa
end
