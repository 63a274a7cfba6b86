import Derived.Test.YteamkjblpglliaaSl
import Derived.Deep.WholeRow
import Derived.RegionTactic
import Derived.BigRegion
import Derived.Deep.RegionHeld3
import Derived.Test.YteamkjblpglliaaProg
section
set_option linter.unusedSimpArgs false
set_option linter.unusedVariables false
namespace Go.SL
open Go.RowKit
structure SliceT (P:Program) (t e:TypeId) (z:List Value) (bytes:Nat):Prop where
 und:P.underlying t=some (.slice e)
 info:∃i zv,P.info? e=some i/\i.zero=some zv/\zv.cells=z.toArray/\i.size=z.length/\i.bytes=bytes
theorem SliceT.mk' {P:Program} {t e:TypeId} {z:List Value} {bytes:Nat} (zv:Value) (size:Nat) (hu:P.underlying t=some (.slice e))
  (h:(P.info? e).map (fun i=>(i.zero,i.size,i.bytes))=some (some zv,size,bytes)) (hz:zv.cells=z.toArray) (hs:z.length=size):SliceT P t e z bytes:=by
 obtain ⟨i,h1,h2,h3,h4⟩:=info_parts h
 exact ⟨hu,i,zv,h1,h2,hz,by omega,h4⟩
section
variable {P:Program} {t e:TypeId} {z:List Value} {bytes:Nat}
theorem sO (w:World) (t ty e:TypeId) (i:TypeInfo) (ht:P.underlying t=some (.slice e)) (hi:P.info? e=some i)
  (g off sLen sCap:Nat) (cur:Array Value) (hg:w.heap[g]?=some (.cells cur e (0,0)))
  (a:Addr) (m c:Nat) (news:List Value) (hl:news.length=m*i.size) (hnews:∀j u,news[j]?=some u->w.cell? (a.add j)=some u) (h1:∀u∈news,u.oneCell'=true)
  (hroom:sLen+m<=sCap) (hfit:off+sLen*i.size+news.length<=cur.size) :
  (Builtin.append_ #[t,t] ty #[.slice (some ⟨g,off,none⟩) sLen sCap,.slice (some a) m c]).run P w =
   .ok (.slice (some ⟨g,off,none⟩) (sLen+m) sCap) (w.setRow g (cur.toList.take (off+sLen*i.size)++news++cur.toList.drop (off+sLen*i.size+news.length)).toArray):=by
 have hf:=run_firstCells_some (P:=P) w i.size m a m c news hl hnews
 have hst:=run_storeCells_at P g (off+sLen*i.size) e news 0 cur w hg (by simpa using hfit) h1
 simp only [Nat.add_zero] at hst
 simp [Builtin.append_,run_underlying ht,sizeOf,typeInfo,hi,Builtin.lenOf,hroom,hf,Addr.add_lit,hst]
theorem zg (A B C:List Value) (off k n:Nat) (ho:off<=A.length) (hA:A.length=off+k) (hB:B.length=n):((A++B++C).drop off).take (k+n)=A.drop off++B:=by
 rw [List.append_assoc,List.drop_append_of_le_length ho]
 rw [<- List.append_assoc]
 have:(A.drop off++B).length=k+n:=by simp;omega
 rw [<- this,List.take_left']
 rfl
theorem sS (T:SliceT P t e z bytes) (_hz:0<z.length) (ty:TypeId) (w:World) (off:Nat) (v:Value) (n:Nat) (xs:List Value) (hv:row e z.length off v n xs (full w))
  (ad:Addr) (m c:Nat) (news:List Value) (hl:news.length=m*z.length) (hnews:∀j u,news[j]?=some u->w.cell? (ad.add j)=some u) (h1:∀u∈news,u.oneCell'=true)
  (hm:0<m) (hbytes:(n+m)*bytes<=140737488355328) (h63:n+m<=maxLen) :
  ∃g off' cap w',(Builtin.append_ #[t,t] ty #[v,.slice (some ad) m c]).run P w=.ok (.slice (some ⟨g,off',none⟩) (n+m) cap) w' /\
   ((w.grownBy w' none/\g=w.heap.size/\off'=0)\/(w.grownBy w' (some g)/\off'=off/\∃cap',v=.slice (some ⟨g,off,none⟩) n cap'/\0<cap')) /\
   n+m<=cap/\cap<=maxLen/\∃cur:Array Value,w'.heap[g]?=some (.cells cur e (0,0))/\cur.size=off'+cap*z.length/\(cur.toList.drop off').take ((n+m)*z.length)=xs++news:=by
 obtain ⟨i,zv,hi,hzv,hzc,hsz,hby⟩:=T.info
 subst hby
 have hlen:(xs++news).length=(n+m)*z.length:=by rw [List.length_append,hv.1,hl,Nat.add_mul]
 have h63':n+m<=9223372036854775807:=by simp only [maxLen] at h63;omega
 have grown:∀old:Nat,old<n+m ->
   ((w.drew.alloc (.cells (xs.toArray++news.toArray++Builtin.zeroCells zv.cells (grownCap w (n+m) old e - (n+m))) e)).heap[w.heap.size]?=some (.cells (xs.toArray++news.toArray++Builtin.zeroCells zv.cells (grownCap w (n+m) old e - (n+m))) e (0,0))) /\
   w.grownBy (w.drew.alloc (.cells (xs.toArray++news.toArray++Builtin.zeroCells zv.cells (grownCap w (n+m) old e - (n+m))) e)) none /\
   n+m<=grownCap w (n+m) old e/\grownCap w (n+m) old e<=maxLen /\
   (xs.toArray++news.toArray++Builtin.zeroCells zv.cells (grownCap w (n+m) old e - (n+m))).size=0+grownCap w (n+m) old e*z.length /\
   ((xs.toArray++news.toArray++Builtin.zeroCells zv.cells (grownCap w (n+m) old e - (n+m))).toList.drop 0).take ((n+m)*z.length)=xs++news:=by
  intro old ho
  have hge:=grownCap_ge w (n+m) old e
  have hcm:grownCap w (n+m) old e<=maxLen:=grownCap_le_maxLen w (n+m) old e h63
  refine ⟨heap_alloc_new w.drew _,⟨rfl,rfl,rfl,by simp,fun k hk _=>Go.RowKit.Below.heap_alloc w.drew _ k hk⟩,hge,hcm,?_,?_⟩
  ·simp only [Array.size_append,List.size_toArray,size_zeroCells,hzc,hv.1,hl,<- Nat.add_mul,Nat.zero_add]
   congr 1
   omega
  ·simp only [Array.toList_append,List.append_assoc,List.drop_zero]
   rw [<- List.append_assoc,<- hlen]
   exact List.take_left
 rcases hv.2 with ⟨a0,rfl,rfl⟩|⟨g,cap,cur,rfl,hg,hnc,hcm,hcs,htake⟩
 ·have hx:xs=[]:=List.eq_nil_of_length_eq_zero (by simpa using hv.1)
  subst hx
  obtain ⟨g1,g2,g3,g4,g5,g6⟩:=grown 0 (by omega)
  simp only [Nat.zero_add] at hbytes h63 h63'
  cases a0 with
  | none =>
   have hr:=run_append_nil (P:=P) w t ty e i zv T.und hi hzv ad m c news (by rw [hsz];exact hl) hnews (by omega) (by omega) (by omega)
   simp only [Nat.zero_add,List.nil_append,Array.empty_append] at hr g1 g2 g3 g4 g5 g6 ⊢
   exact ⟨w.heap.size,0,_,_,hr,.inl ⟨g2,rfl,rfl⟩,g3,g4,_,g1,by simpa using g5,g6⟩
  | some a0 =>
   have hr:=run_append_grow (P:=P) w t ty e i zv T.und hi hzv a0 0 0 [] (by simp) (by simp) ad m c news (by rw [hsz];exact hl) hnews (by omega) (by omega) (growslice_fits (by omega) (by simpa using hbytes))
   simp only [Nat.zero_add,List.nil_append,Array.empty_append] at hr g1 g2 g3 g4 g5 g6 ⊢
   exact ⟨w.heap.size,0,_,_,hr,.inl ⟨g2,rfl,rfl⟩,g3,g4,_,g1,by simpa using g5,g6⟩
 ·by_cases hroom:n+m<=cap
  ·have hfit:off+n*z.length+news.length<=cur.size:=by
    rw [hl,hcs]
    have:n*z.length+m*z.length<=cap*z.length:=by rw [<- Nat.add_mul];exact Nat.mul_le_mul_right _ hroom
    omega
   have hr:=sO (P:=P) w t ty e i T.und hi g off n cap cur hg ad m c news (by rw [hsz];exact hl) hnews h1 hroom (by rw [hsz];exact hfit)
   rw [hsz] at hr
   refine ⟨g,off,cap,_,hr,.inr ⟨⟨rfl,rfl,rfl,by simp,fun k _ hk=>setRow_other w g k _ (fun e=>hk (by simp [e]))⟩,rfl,cap,rfl,by omega⟩,hroom,hcm,_,setRow_heap w g cur _ e _ hg,?_,?_⟩
   ·simp only [List.size_toArray,List.length_append,List.length_take,List.length_drop,Array.length_toList]
    omega
   ·rw [Nat.add_mul]
    have hA:(cur.toList.take (off+n*z.length)).length=off+n*z.length:=by simp;omega
    rw [zg _ _ _ off (n*z.length) (m*z.length) (by omega) hA hl]
    congr 1
    rw [<- htake,List.drop_take]
    congr 1
    omega
  ·have holds:∀j u,xs[j]?=some u->w.cell? ((⟨g,off,none⟩:Addr).add j)=some u:=fun j u hu=>by
    rw [Addr.add_lit,cell_of_row w g (off+j) cur e (0,0) hg]
    exact row.take_get htake hu
   have hr:=run_append_grow (P:=P) w t ty e i zv T.und hi hzv ⟨g,off,none⟩ n cap xs (by rw [hsz];exact hv.1) holds ad m c news (by rw [hsz];exact hl) hnews (by omega) (by omega) (growslice_fits (by omega) hbytes)
   obtain ⟨g1,g2,g3,g4,g5,g6⟩:=grown cap (by omega)
   exact ⟨w.heap.size,0,_,_,hr,.inl ⟨g2,rfl,rfl⟩,g3,g4,_,g1,g5,g6⟩
theorem Sat.append {B:Nat} {w0 w:World} {L:List jy} (hS:Sat B w0 w L) (T:SliceT P t e z bytes) (hz:0<z.length) (ty:TypeId) (k off:Nat) (v:Value) (n:Nat) (xs:List Value) (hk:L[k]?=some (row e z.length off v n xs))
  (ad:Addr) (m c:Nat) (news:List Value) (hl:news.length=m*z.length) (hnews:∀j u,news[j]?=some u->w.cell? (ad.add j)=some u) (h1:∀u∈news,u.oneCell'=true)
  (hm:0<m) (hbytes:(n+m)*bytes<=140737488355328) (h63:n+m<=maxLen) :
  ∃a off' cap w',(Builtin.append_ #[t,t] ty #[v,.slice (some ad) m c]).run P w=.ok (.slice (some a) (n+m) cap) w'/\(off=0->off'=0) /\
   Sat B w0 w' (L.set k (row e z.length off' (.slice (some a) (n+m) cap) (n+m) (xs++news))):=by
 have hv:=hS.get hk
 obtain ⟨g,off',cap,w',hr,hcase,hnc,hcm,cur,hg,hcs,ht⟩:=sS T hz ty w off v n xs hv ad m c news hl hnews h1 hm hbytes h63
 have hlen:(xs++news).length=(n+m)*z.length:=by rw [List.length_append,hv.1,hl,Nat.add_mul]
 refine ⟨_,off',cap,w',hr,?_,?_⟩
 ·intro h0
  rcases hcase with ⟨_,_,h⟩|⟨_,h,_⟩
  ·exact h
  ·omega
 ·rcases hcase with ⟨hgr,hgn,_⟩|⟨hgr,ho,cap',hv',hc0⟩
  ·refine hS.update k _ _ hk none hgr ?_
   intro p _ _
   refine ⟨by simp,fun q _ hq2=>⟨hlen,.inr ⟨g,cap,cur,rfl,?_,hnc,hcm,hcs,ht⟩⟩⟩
   rw [hq2 g (by omega)];exact hg
  ·refine hS.update k _ _ hk (some g) hgr ?_
   intro p hp hpw
   have hpg:(p g).isSome=true:=by
    rcases hp.2 with ⟨a0,h0,_⟩|⟨g',cap'',cur',h0,hh,_⟩
    ·rw [hv'] at h0
     simp only [Value.slice.injEq] at h0
     omega
    ·rw [hv'] at h0
     simp only [Value.slice.injEq,Option.some.injEq,Addr.mk.injEq] at h0
     obtain ⟨⟨rfl,_⟩,_⟩:=h0
     simp [hh]
   refine ⟨fun g1 h=>by obtain rfl:=Option.some.inj h;exact hpg,fun q hq1 _=>⟨hlen,.inr ⟨g,cap,cur,rfl,?_,hnc,hcm,hcs,ht⟩⟩⟩
   rw [hq1 g hpg];exact hg
theorem kz {o:Oper} {a:Act} {K:Act->World->Prop} {Q:Exit->Act->World->Prop} {w:World} {B:Nat} {w0:World} {L:List jy} (T:SliceT P t e z bytes) (s x:Operand)
  (ho:o.op=.call { callee:=.builtin .append,args:=#[s,x],argTypes:=#[t,t] }) (k off:Nat) (v:Value) (n:Nat) (xs:List Value) (hs:a.eval s=v) (hS:Sat B w0 w L) (hk:L[k]?=some (row e z.length off v n xs))
  (ad:Addr) (m c:Nat) (news:List Value) (hx:a.eval x=.slice (some ad) m c) (hnews:∀j u,news[j]?=some u->w.cell? (ad.add j)=some u) (h1:∀u∈news,u.oneCell'=true) (hl:news.length=m*z.length)
  (hz:0<z.length) (hm:0<m) (hbytes:(n+m)*bytes<=140737488355328) (h63:n+m<=maxLen)
  (h:∀a' off' cap w',(off=0->off'=0)->Sat B w0 w' (L.set k (row e z.length off' (.slice (some a') (n+m) cap) (n+m) (xs++news)))->K (a.put o.dst (.slice (some a') (n+m) cap)) w'):o.wp P a w K Q:=by
 obtain ⟨a',off',cap,w',hr,h0,hS'⟩:=hS.append T hz o.type k off v n xs hk ad m c news hl hnews h1 hm hbytes h63
 unfold Oper.wp execOp
 simp only [ho,resolve,invoke,builtin,Sem.run_bind,Sem.run_pure,Result.andThen_ok,List.map_toArray,List.map_cons,List.map_nil,hs,hx,hr]
 exact h a' off' cap w' h0 hS'
theorem ED {ops:Array Oper} {rest:List Oper} {o:Oper} {a:Act} {Q:Exit->Act->World->Prop} {w:World} {B:Nat} {w0:World} {L:List jy} (hgd:o.guard=none) (T:SliceT P t e z bytes) (s x:Operand)
  (ho:o.op=.call { callee:=.builtin .append,args:=#[s,x],argTypes:=#[t,t] }) (k:Nat) {v:Value} {n:Nat} {xs:List Value} (hs:a.eval s=v) (hS:Sat B w0 w L) (hk:L[k]?=some (row e z.length 0 v n xs))
  (ad:Addr) (m c:Nat) (news:List Value) (hx:a.eval x=.slice (some ad) m c) (hnews:∀j u,news[j]?=some u->w.cell? (ad.add j)=some u) (h1:∀u∈news,u.oneCell'=true) (hl:news.length=m*z.length)
  (hz:0<z.length) (hm:0<m) (hbytes:(n+m)*bytes<=140737488355328) (h63:n+m<=maxLen)
  (h:∀a' cap w',Sat B w0 w' (L.set k (row e z.length 0 (.slice (some a') (n+m) cap) (n+m) (xs++news)))->wpList P ops Q rest (a.put o.dst (.slice (some a') (n+m) cap)) w'):wpList P ops Q (o::rest) a w :=
 wpList_plain hgd fun _ hK=>kz T s x ho k 0 v n xs hs hS hk ad m c news hx hnews h1 hl hz hm hbytes h63 fun a' off' cap w' h0 hS'=>hK _ _ (by obtain rfl:=h0 rfl;exact h a' cap w' hS')
theorem C9 {ops:Array Oper} {rest:List Oper} {o:Oper} {a:Act} {Q:Exit->Act->World->Prop} {w:World} {B:Nat} {w0:World} {L:List jy} (hgd:o.guard=none) (T:SliceT P t e z bytes) (s x:Operand)
  (ho:o.op=.call { callee:=.builtin .append,args:=#[s,x],argTypes:=#[t,t] }) (k:Nat) {off:Nat} {v:Value} {n:Nat} {xs:List Value} (hs:a.eval s=v) (hS:Sat B w0 w L) (hk:L[k]?=some (row e z.length off v n xs))
  (ad:Addr) (m c:Nat) (news:List Value) (hx:a.eval x=.slice (some ad) m c) (hnews:∀j u,news[j]?=some u->w.cell? (ad.add j)=some u) (h1:∀u∈news,u.oneCell'=true) (hl:news.length=m*z.length)
  (hz:0<z.length) (hm:0<m) (hbytes:(n+m)*bytes<=140737488355328) (h63:n+m<=maxLen)
  (h:∀a' off' cap w',Sat B w0 w' (L.set k (row e z.length off' (.slice (some a') (n+m) cap) (n+m) (xs++news)))->wpList P ops Q rest (a.put o.dst (.slice (some a') (n+m) cap)) w'):wpList P ops Q (o::rest) a w :=
 wpList_plain hgd fun _ hK=>kz T s x ho k off v n xs hs hS hk ad m c news hx hnews h1 hl hz hm hbytes h63 fun a' off' cap w' _ hS'=>hK _ _ (h a' off' cap w' hS')
theorem ul (w:World) (news:List Value) (e:TypeId):∀j u,news[j]?=some u->(w.alloc (.cells news.toArray e)).cell? ((⟨w.heap.size,0,none⟩:Addr).add j)=some u:=by
 intro j u hu
 rw [Addr.add_lit,Nat.zero_add,World.cell?_alloc_new]
 simpa using hu
theorem jg (w:World) (news:List Value) (e:TypeId):∀j u,news[j]?=some u->(w.alloc (.cells news.toArray e)).drew.cell? ((⟨w.heap.size,0,none⟩:Addr).add j)=some u:=ul w news e
theorem vS (z:List Value) (hz:0<z.length) (n:Nat):(madeCells z.toArray (n*z.length)).toList=(List.replicate n z).flatten:=by
 induction n with
 | zero=>simp [madeCells]
 | succ n ih =>
  rw [List.replicate_succ',List.flatten_append,<- ih]
  apply List.ext_getElem?
  intro j
  by_cases h1:j<n*z.length
  ·rw [List.getElem?_append_left (by simp [madeCells];exact h1)]
   have h2:j<(n+1)*z.length:=by rw [Nat.succ_mul];omega
   simp [madeCells,h1,h2]
  ·rw [List.getElem?_append_right (by simp [madeCells];omega)]
   by_cases h2:j<(n+1)*z.length
   ·have e:j % z.length=j - n*z.length:=by
     rw [Nat.succ_mul] at h2
     have:j=(j - n*z.length)+n*z.length:=by omega
     rw [this,Nat.add_mul_mod_self_right,Nat.mod_eq_of_lt (by omega)]
     omega
    have h3:j - n*z.length<z.length:=by rw [Nat.succ_mul] at h2;omega
    simp [madeCells,h2,e,h3]
   ·have h3:¬ j - n*z.length<z.length:=by rw [Nat.succ_mul] at h2;omega
    simp [madeCells,h2]
    omega
theorem kD (u:Value) (n:Nat):(List.replicate n [u]).flatten=List.replicate n u:=by
 induction n with
 | zero=>rfl
 | succ n ih=>simp [List.replicate_succ,ih]
theorem Ad {ops:Array Oper} {rest:List Oper} {o:Oper} {a:Act} {Q:Exit->Act->World->Prop} {w:World} {B:Nat} {w0:World} {L:List jy} (hgd:o.guard=none) (T:SliceT P t e z bytes) (l c:Operand) (hop:o.op=Op.makeSlice t l c)
  (n:Nat) (hl:a.eval l=.int .i64 (n:Int)) (hc:a.eval c=.int .i64 (n:Int)) (hS:Sat B w0 w L) (hz:0<z.length) (b2:bytes*n<=281474976710656) (b3:n<=maxLen)
  (h:∀a' w',Sat B w0 w' (L++[row e z.length 0 (.slice (some a') n n) n (List.replicate n z).flatten])->wpList P ops Q rest (a.put o.dst (.slice (some a') n n)) w'):wpList P ops Q (o::rest) a w:=by
 obtain ⟨i,zv,hi,hzv,hzc,hsz,hby⟩:=T.info
 subst hby
 refine wpList_plain hgd fun K hK'=>?_
 have b3':(n:Int)<=9223372036854775807:=by simp only [maxLen] at b3;omega
 have b2':(i.bytes:Int)*(n:Int)<=281474976710656:=by
  have h:((i.bytes*n:Nat):Int)<=281474976710656:=by omega
  rwa [Int.natCast_mul] at h
 have hr:=run_make (P:=P) w t e i zv T.und hi hzv .i64 .i64 n n (by omega) (Int.le_refl _) b2' b3'
 simp only [Int.toNat_natCast] at hr
 unfold Oper.wp
 simp [execOp,hop,hl,hc,hr,Result.andThen]
 refine hK' _ _ (h _ _ (hS.made _ _ fun q hq=>?_))
 refine ⟨by simp,.inr ⟨w.heap.size,n,_,rfl,hq,Nat.le_refl _,b3,?_,?_⟩⟩
 ·simp [size_madeCells,hsz]
 ·rw [hzc,hsz,List.drop_zero,vS z hz n]
  exact List.take_of_length_le (by simp)
theorem Sat.lit {w:World} {B:Nat} {w0:World} {L:List jy} (hS:Sat B w0 w L) (cs:List Value) (e:TypeId) (size n:Nat) (hn:cs.length=n*size) (hm:n<=maxLen) :
  Sat B w0 (w.alloc (.cells cs.toArray e)) (L++[row e size 0 (.slice (some ⟨w.heap.size,0,none⟩) n n) n cs]) :=
 hS.made _ _ fun q hq=>⟨hn,.inr ⟨w.heap.size,n,_,rfl,hq,Nat.le_refl _,hm,by simpa using hn,by simp [<- hn]⟩⟩
theorem Sat.var {w:World} {B:Nat} {w0:World} {L:List jy} (hS:Sat B w0 w L) (cs:List Value) (e:TypeId):Sat B w0 (w.alloc (.cells cs.toArray e)) (L++[SL.blk w.heap.size cs e]) :=
 hS.made _ _ fun _ hq=>hq
theorem Sat.nil {w:World} {B:Nat} {w0:World} {L:List jy} (hS:Sat B w0 w L) (e:TypeId) (size:Nat):Sat B w0 w (L++[row e size 0 (.slice none 0 0) 0 []]):=by
 obtain ⟨c,hc⟩:=hS.own
 refine ⟨hS.below,hS.base,c,?_⟩
 intro i A hi
 by_cases h:i<L.length
 ·exact hc i A (by rwa [List.getElem?_append_left h] at hi)
 ·rw [List.getElem?_append_right (by omega)] at hi
  have:A=row e size 0 (.slice none 0 0) 0 []:=by
   cases hj:i - L.length with
   | zero=>simp [hj] at hi;exact hi.symm
   | succ j=>simp [hj] at hi
  subst this
  exact ⟨by simp,.inl ⟨none,rfl,rfl⟩⟩
theorem jP {o:Oper} {a:Act} {K:Act->World->Prop} {Q:Exit->Act->World->Prop} {w:World} (ty:TypeId) (x y:Operand) (ho:o.op=.store ty x y) (g j:Nat) (hx:a.eval x=.pointer (some ⟨g,j,none⟩)) (u:Value) (hy:a.eval y=u) (h1:u.oneCell'=true)
  (hi:(P.info? ty).map (·.size)=some 1) (hc:(w.cell? ⟨g,j,none⟩).isSome=true) (hf:w.frozen? ⟨g,j,none⟩=false)
  (h:K (a.put o.dst undef) (w.setCell ⟨g,j,none⟩ u)):o.wp P a w K Q:=by
 have hcells:u.cells=#[u]:=by cases u<;>first|rfl|cases h1
 have hst:=run_storeCells_cells (P:=P) g j [u] 0 w (fun k hk=>by simp at hk;subst hk;simpa using hc) (fun k hk=>by simp at hk;subst hk;simpa using hf) (by simpa using h1)
 have hr:(storeVar ty ⟨g,j,none⟩ u).run P w=.ok () (w.setCell ⟨g,j,none⟩ u):=by
  cases hq:P.info? ty with
  | none=>simp [hq] at hi
  | some i =>
   have hs:i.size=1:=by simpa [hq] using hi
   simp only [Nat.add_zero] at hst
   simp [storeVar,sizeOf,typeInfo,hq,hcells,hs,hst,World.setCells]
 unfold Oper.wp execOp
 simp only [ho,hx,hy,Instr.storeAt,Instr.sureAddr,Sem.run_bind,Sem.run_pure,Result.andThen_ok,hr]
 exact h
theorem EG {ops:Array Oper} {rest:List Oper} {o:Oper} {a:Act} {Q:Exit->Act->World->Prop} {w:World} {B:Nat} {w0:World} {L:List jy} (hgd:o.guard=none) (ty:TypeId) (x y:Operand) (ho:o.op=.store ty x y)
  (k:Nat) {e:TypeId} {size off g n cap:Nat} {xs:List Value} (hS:Sat B w0 w L) (hk:L[k]?=some (row e size off (.slice (some ⟨g,off,none⟩) n cap) n xs)) (j:Nat) (hx:a.eval x=.pointer (some ⟨g,off+j,none⟩)) (hj:j<xs.length) {u:Value} (hy:a.eval y=u) (h1:u.oneCell'=true)
  (hi:(P.info? ty).map (·.size)=some 1)
  (h:∀w',Sat B w0 w' (L.set k (row e size off (.slice (some ⟨g,off,none⟩) n cap) n (xs.set j u)))->wpList P ops Q rest (a.put o.dst undef) w'):wpList P ops Q (o::rest) a w:=by
 have hl:=(hS.get hk).1
 have hn:0<n:=by
  rcases Nat.eq_zero_or_pos n with rfl|h
  ·rw [Nat.zero_mul] at hl;omega
  ·exact h
 obtain ⟨g',cap',hv,hc,hf⟩:=hS.opened k hk hn
 simp only [Value.slice.injEq,Option.some.injEq,Addr.mk.injEq,and_true,true_and] at hv
 obtain ⟨rfl,rfl⟩:=hv
 refine wpList_plain hgd fun _ hK=>jP ty x y ho g (off+j) hx u hy h1 hi ?_ (hf _) (hK _ _ (h _ (hS.store k hk hn j u)))
 rw [hc j _ (List.getElem?_eq_getElem hj)];rfl
theorem FO {ops:Array Oper} {rest:List Oper} {o:Oper} {a:Act} {Q:Exit->Act->World->Prop} {w:World} {B:Nat} {w0:World} {L:List jy} (hgd:o.guard=none) (ty:TypeId) (x y:Operand) (ho:o.op=.store ty x y)
  (k:Nat) {e:TypeId} {b:Nat} {cur:List Value} (hS:Sat B w0 w L) (hk:L[k]?=some (SL.blk b cur e)) (j:Nat) (hx:a.eval x=.pointer (some ⟨b,j,none⟩)) (hj:j<cur.length) {u:Value} (hy:a.eval y=u) (h1:u.oneCell'=true)
  (hi:(P.info? ty).map (·.size)=some 1)
  (h:∀w',Sat B w0 w' (L.set k (SL.blk b (cur.set j u) e))->wpList P ops Q rest (a.put o.dst undef) w'):wpList P ops Q (o::rest) a w:=by
 refine wpList_plain hgd fun _ hK=>jP ty x y ho b j hx u hy h1 hi ?_ (hS.blkFree k hk j) (hK _ _ (h _ (hS.storeBlk k hk j u)))
 rw [hS.blkCell k hk j,List.getElem?_eq_getElem hj];rfl
end
end Go.SL
end
section
set_option linter.unusedSimpArgs false
set_option linter.unusedVariables false
namespace Go.SL
open Go.RowKit
theorem Sat.old {B:Nat} {w0 w:World} {L:List jy} (hS:Sat B w0 w L) {g o:Nat} {u:Value} (hg:g<B) (h:w0.cell? ⟨g,o,none⟩=some u):w.cell? ⟨g,o,none⟩=some u :=
 (hS.below.cell (p:=⟨g,o,none⟩) hg).trans h
theorem Sat.front {B:Nat} {w0 w:World} {L:List jy} {A:jy} (hS:Sat B w0 w (L++[A])):Sat B w0 w (A::L):=by
 refine hS.sel (L.length::List.range L.length) ?_ ?_
 ·rw [List.nodup_cons]
  exact ⟨by simp,List.nodup_range⟩
 ·rw [List.map_cons,List.map_cons]
  congr 1
  ·simp
  ·apply List.ext_getElem
   ·simp
   ·intro i h1 h2
    simp at h1
    simp [List.getElem?_append_left h1]
theorem Sat.back {B:Nat} {w0 w:World} {L:List jy} {A:jy} (hS:Sat B w0 w (A::L)):Sat B w0 w (L++[A]):=by
 refine hS.sel ((List.range L.length).map (·+1)++[0]) ?_ ?_
 ·rw [List.nodup_append]
  refine ⟨List.Pairwise.map _ (fun _ _ h=>by simpa using h) List.nodup_range,by simp,?_⟩
  intro a ha b hb
  simp at ha hb
  obtain ⟨c,_,rfl⟩:=ha
  omega
 ·simp only [List.map_append,List.map_map]
  congr 1
  apply List.ext_getElem
  ·simp
  ·intro i h1 h2
   simp at h1
   simp [h1]
theorem Sat.tail {B:Nat} {w0 w:World} {L:List jy} {A:jy} (hS:Sat B w0 w (A::L)):Sat B w0 w L:=by
 obtain ⟨c,hc⟩:=hS.own
 refine ⟨hS.below,hS.base,fun b=>c b - 1+(if c b=0 then L.length else 0),?_⟩
 intro i A' hi
 have h:=hc (i+1) A' (by simpa using hi)
 have e:part B w (fun b=>c b - 1+(if c b=0 then L.length else 0)) i=part B w c (i+1):=by
  have hl:i<L.length:=(List.getElem?_eq_some_iff.1 hi).1
  funext b
  unfold part
  by_cases h0:c b=0
  ·simp only [h0,if_true]
   rw [if_neg (by omega),if_neg (by omega)]
  ·simp only [h0,if_false]
   by_cases h1:c b=i+1
   ·by_cases h2:B<=b
    ·rw [if_pos ⟨by omega,h2⟩,if_pos ⟨h1,h2⟩]
    ·rw [if_neg (fun h=>h2 h.2),if_neg (fun h=>h2 h.2)]
   ·rw [if_neg (by omega),if_neg (by omega)]
 rw [e];exact h
theorem jl {P:Program} {ops:Array Oper} {rest:List Oper} {o:Oper} {a:Act} {Q:Exit->Act->World->Prop} {w:World} {B:Nat} {w0:World} {L:List jy} (hgd:o.guard=none) (ty:TypeId) (x y:Operand) (ho:o.op=.store ty x y)
  (k:Nat) {e:TypeId} {size g n cap:Nat} {xs:List Value} (hS:Sat B w0 w L) (hk:L[k]?=some (row e size 0 (.slice (some ⟨g,0,none⟩) n cap) n xs)) (j:Nat) (hx:a.eval x=.pointer (some ⟨g,j,none⟩)) (hj:j<xs.length) {u:Value} (hy:a.eval y=u) (h1:u.oneCell'=true)
  (hi:(P.info? ty).map (·.size)=some 1)
  (h:∀w',Sat B w0 w' (L.set k (row e size 0 (.slice (some ⟨g,0,none⟩) n cap) n (xs.set j u)))->wpList P ops Q rest (a.put o.dst undef) w'):wpList P ops Q (o::rest) a w :=
 EG hgd ty x y ho k hS hk j (by rw [Nat.zero_add];exact hx) hj hy h1 hi h
theorem Sat.tailRow {B:Nat} {w0 w:World} {L:List jy} (hS:Sat B w0 w L) (i:Nat) {e:TypeId} {off g n cap:Nat} {x:Value} {xs:List Value} (hi:L[i]?=some (row e 1 off (.slice (some ⟨g,off,none⟩) (n+1) cap) (n+1) (x::xs))) :
  Sat B w0 w (L.set i (row e 1 (off+1) (.slice (if cap=1 then some ⟨g,off,none⟩ else some ⟨g,off+1,none⟩) n (cap - 1)) n xs)):=by
 refine hS.weak i _ _ hi fun p hp=>?_
 obtain ⟨h1,h2⟩:=hp
 refine ⟨by simpa using h1,?_⟩
 rcases h2 with ⟨a,_,h⟩|⟨g',cap',cur,hv,hh,h3,h4,h5,h6⟩
 ·omega
 ·simp only [Value.slice.injEq,Option.some.injEq,Addr.mk.injEq,and_true,true_and] at hv
  obtain ⟨rfl,rfl⟩:=hv
  by_cases hc:cap=1
  ·left
   exact ⟨some ⟨g,off,none⟩,by simp [hc];omega,by omega⟩
  ·right
   refine ⟨g,cap - 1,cur,by simp [hc],hh,by omega,by omega,by omega,?_⟩
   rw [Nat.mul_one] at h6 ⊢
   have:cur.toList.drop (off+1)=(cur.toList.drop off).drop 1:=by rw [List.drop_drop]
   rw [this]
   have h7:=congrArg (List.drop 1) h6
   rw [List.drop_take] at h7
   simpa using h7
end Go.SL
end
section
set_option linter.unusedSimpArgs false
set_option linter.unusedVariables false
namespace Go.SL
open Go.RowKit
def xP (e size:Nat) (us:List Value) (xss:List (List Value)):jy:=fun h =>
 us.length=xss.length/\∃c:Nat->Nat,∀ (k:Nat) (u:Value) (xs:List Value),us[k]?=some u->xss[k]?=some xs->row e size 0 u (xs.length / size) xs (fun b=>if c b=k then h b else none)
theorem Sat.bagLen {B:Nat} {w0 w:World} {L:List jy} (hS:Sat B w0 w L) (i:Nat) {e size:Nat} {us:List Value} {xss:List (List Value)} (hi:L[i]?=some (xP e size us xss)):us.length=xss.length:=by
 obtain ⟨c,hc⟩:=hS.own
 exact (hc i _ hi).1
theorem Sat.bagRow {B:Nat} {w0 w:World} {L:List jy} (hS:Sat B w0 w L) (i:Nat) {e size:Nat} {us:List Value} {xss:List (List Value)} (hi:L[i]?=some (xP e size us xss)) (k:Nat) {u:Value} {xs:List Value} (hu:us[k]?=some u) (hx:xss[k]?=some xs):row e size 0 u (xs.length / size) xs (full w):=by
 obtain ⟨c,hc⟩:=hS.own
 obtain ⟨_,d,hd⟩:=hc i _ hi
 refine (hd k u xs hu hx).mono fun b o h=>?_
 split at h
 ·exact (kM h).2.2
 ·cases h
theorem Sat.bagRd {B:Nat} {w0 w:World} {L:List jy} (hS:Sat B w0 w L) (i:Nat) {e size:Nat} {us:List Value} {xss:List (List Value)} (hi:L[i]?=some (xP e size us xss)) (k:Nat) {u:Value} {xs:List Value} (hu:us[k]?=some u) (hx:xss[k]?=some xs) :
  ∃a cap,u=.slice a (xs.length / size) cap/\SL.rd w a xs/\xs.length=xs.length / size*size/\xs.length / size<=9223372036854775807:=by
 have h:=hS.bagRow i hi k hu hx
 obtain ⟨a,cap,rfl,hm⟩:=h.shape
 exact ⟨a,cap,rfl,h.rd,h.1,hm⟩
theorem JY (e size n:Nat) (h:uD):xP e size (List.replicate n (.slice none 0 0)) (List.replicate n []) h:=by
 refine ⟨by simp,fun _=>0,?_⟩
 intro k u xs hu hx
 have h1:u=.slice none 0 0:=by
  rw [List.getElem?_replicate] at hu
  split at hu
  ·exact (Option.some.inj hu).symm
  ·cases hu
 have h2:xs=[]:=by
  rw [List.getElem?_replicate] at hx
  split at hx
  ·exact (Option.some.inj hx).symm
  ·cases hx
 subst h1 h2
 exact ⟨by simp,.inl ⟨none,by simp,by simp⟩⟩
theorem Sat.bagNew {B:Nat} {w0 w:World} {L:List jy} (hS:Sat B w0 w L) (e size n:Nat):Sat B w0 w (L++[xP e size (List.replicate n (.slice none 0 0)) (List.replicate n [])]):=by
 obtain ⟨c,hc⟩:=hS.own
 refine ⟨hS.below,hS.base,c,?_⟩
 intro i A hi
 by_cases h:i<L.length
 ·exact hc i A (by rwa [List.getElem?_append_left h] at hi)
 ·rw [List.getElem?_append_right (by omega)] at hi
  have:A=xP e size (List.replicate n (.slice none 0 0)) (List.replicate n []):=by
   cases hj:i - L.length with
   | zero=>simp [hj] at hi;exact hi.symm
   | succ j=>simp [hj] at hi
  subst this
  exact JY e size n _
section
variable {P:Program} {t e:TypeId} {z:List Value} {bytes:Nat}
theorem Sat.bagAppend {B:Nat} {w0 w:World} {L:List jy} (hS:Sat B w0 w L) (T:SliceT P t e z bytes) (hz:0<z.length) (ty:TypeId) (i:Nat) (us:List Value) (xss:List (List Value)) (hi:L[i]?=some (xP e z.length us xss))
  (k:Nat) (v:Value) (xs:List Value) (hv:us[k]?=some v) (hxs:xss[k]?=some xs)
  (ad:Addr) (m c:Nat) (news:List Value) (hl:news.length=m*z.length) (hnews:∀j u,news[j]?=some u->w.cell? (ad.add j)=some u) (h1:∀u∈news,u.oneCell'=true)
  (hm:0<m) (hbytes:(xs.length / z.length+m)*bytes<=140737488355328) (h63:xs.length / z.length+m<=maxLen) :
  ∃a cap w',(Builtin.append_ #[t,t] ty #[v,.slice (some ad) m c]).run P w=.ok (.slice (some a) (xs.length / z.length+m) cap) w' /\
   Sat B w0 w' (L.set i (xP e z.length (us.set k (.slice (some a) (xs.length / z.length+m) cap)) (xss.set k (xs++news)))):=by
 have hrow:=hS.bagRow i hi k hv hxs
 obtain ⟨g,off',cap,w',hr,hcase,hnc,hcm,cur,hg,hcs,ht⟩:=sS T hz ty w 0 v _ xs hrow ad m c news hl hnews h1 hm hbytes h63
 have hoff:off'=0:=by rcases hcase with ⟨_,_,h⟩|⟨_,h,_⟩<;>exact h
 subst hoff
 have hlen:(xs++news).length=(xs.length / z.length+m)*z.length:=by rw [List.length_append,hl,Nat.add_mul,<- hrow.1]
 have hdiv:(xs++news).length / z.length=xs.length / z.length+m:=by rw [hlen,Nat.mul_div_cancel _ hz]
 refine ⟨_,cap,w',hr,?_⟩
 have hul:=hS.bagLen i hi
 have hk1:k<us.length:=(List.getElem?_eq_some_iff.1 hv).1
 have hk2:k<xss.length:=(List.getElem?_eq_some_iff.1 hxs).1
 have key:∀ (row0:Option Nat),w.grownBy w' row0->(∀g0,row0=some g0->g0=g/\∃cap',v=.slice (some ⟨g,0,none⟩) (xs.length / z.length) cap'/\0<cap')->(row0=none->g=w.heap.size) ->
   Sat B w0 w' (L.set i (xP e z.length (us.set k (.slice (some ⟨g,0,none⟩) (xs.length / z.length+m) cap)) (xss.set k (xs++news)))):=by
  intro row0 hgr hrow0 hnone
  refine hS.update i _ _ hi row0 hgr ?_
  intro p hp hpw
  obtain ⟨_,d,hd⟩:=hp
  have hpg:∀g0,row0=some g0->(p g0).isSome=true/\d g0=k:=by
   intro g0 h0
   obtain ⟨rfl,cap',hv',hc0⟩:=hrow0 g0 h0
   rcases (hd k v xs hv hxs).2 with ⟨a0,h0,_⟩|⟨g',cap'',cur',h0,hh,_⟩
   ·rw [hv'] at h0
    simp only [Value.slice.injEq] at h0
    omega
   ·rw [hv'] at h0
    simp only [Value.slice.injEq,Option.some.injEq,Addr.mk.injEq] at h0
    obtain ⟨⟨rfl,_⟩,_⟩:=h0
    simp only at hh
    split at hh
    ·rename_i hdk;exact ⟨by simp [hh],hdk⟩
    ·cases hh
  refine ⟨fun g0 h0=>(hpg g0 h0).1,fun q hq1 hq2=>⟨by simpa using hul,fun b=>if w.heap.size<=b then k else d b,?_⟩⟩
  intro j u ys hu hy
  by_cases hjk:j=k
  ·subst hjk
   rw [List.getElem?_set_self hk1] at hu
   rw [List.getElem?_set_self hk2] at hy
   obtain rfl:=Option.some.inj hu
   obtain rfl:=Option.some.inj hy
   rw [hdiv]
   refine ⟨hlen,.inr ⟨g,cap,cur,rfl,?_,hnc,hcm,hcs,ht⟩⟩
   cases hr0:row0 with
   | none =>
    have hgs:=hnone hr0
    simp only [hgs,Nat.le_refl,if_true]
    rw [hq2 _ (Nat.le_refl _),<- hgs];exact hg
   | some g0 =>
    obtain ⟨rfl,_⟩:=hrow0 g0 hr0
    obtain ⟨hps,hdk⟩:=hpg g0 hr0
    obtain ⟨o,ho⟩:=Option.isSome_iff_exists.1 hps
    have hlt:=lt_of_heap (hpw _ _ ho)
    simp only [show ¬ w.heap.size<=g0 by omega,if_false,hdk,if_true]
    rw [hq1 g0 hps];exact hg
  ·rw [List.getElem?_set_ne (by omega)] at hu hy
   refine (hd j u ys hu hy).mono fun b o hb=>?_
   split at hb
   ·rename_i hdj
    have hpb:(p b).isSome=true:=by simp [hb]
    have hlt:=lt_of_heap (hpw _ _ hb)
    simp only [show ¬ w.heap.size<=b by omega,if_false,hdj,if_true]
    rw [hq1 b hpb,hgr.block b hlt (fun e=>by have:=(hpg b e.symm).2;omega)]
    exact hpw _ _ hb
   ·cases hb
 rcases hcase with ⟨hgr,hgn,_⟩|⟨hgr,_,cap',hv',hc0⟩
 ·exact key none hgr (by simp) (fun _=>hgn)
 ·exact key (some g) hgr (fun g0 h0=>⟨(Option.some.inj h0).symm,cap',hv',hc0⟩) (by simp)
theorem H9 {o:Oper} {a:Act} {K:Act->World->Prop} {Q:Exit->Act->World->Prop} {w:World} {B:Nat} {w0:World} {L:List jy} (T:SliceT P t e z bytes) (s x:Operand)
  (ho:o.op=.call { callee:=.builtin .append,args:=#[s,x],argTypes:=#[t,t] }) (i:Nat) {us:List Value} {xss:List (List Value)} (hS:Sat B w0 w L) (hi:L[i]?=some (xP e z.length us xss)) (k n:Nat) {v:Value} {xs:List Value} (hn:xs.length=n*z.length) (hv:us[k]?=some v) (hxs:xss[k]?=some xs) (hs:a.eval s=v)
  (ad:Addr) (m c:Nat) (news:List Value) (hx:a.eval x=.slice (some ad) m c) (hnews:∀j u,news[j]?=some u->w.cell? (ad.add j)=some u) (h1:∀u∈news,u.oneCell'=true) (hl:news.length=m*z.length)
  (hz:0<z.length) (hm:0<m) (hbytes:(n+m)*bytes<=140737488355328) (h63:n+m<=maxLen)
  (h:∀a' cap w',Sat B w0 w' (L.set i (xP e z.length (us.set k (.slice (some a') (n+m) cap)) (xss.set k (xs++news))))->K (a.put o.dst (.slice (some a') (n+m) cap)) w'):o.wp P a w K Q:=by
 have hnn:xs.length / z.length=n:=by rw [hn,Nat.mul_div_cancel _ hz]
 subst hnn
 obtain ⟨a',cap,w',hr,hS'⟩:=hS.bagAppend T hz o.type i us xss hi k v xs hv hxs ad m c news hl hnews h1 hm hbytes h63
 unfold Oper.wp execOp
 simp only [ho,resolve,invoke,builtin,Sem.run_bind,Sem.run_pure,Result.andThen_ok,List.map_toArray,List.map_cons,List.map_nil,hs,hx,hr]
 exact h a' cap w' hS'
end
end Go.SL
end
section
set_option linter.unusedSimpArgs false
set_option linter.unusedVariables false
namespace Go.Proofs.Yteamkjblpglliaa
open Go.RowKit Go.SL
theorem T.ints:SliceT Try.prog 22 3 [.int .i64 0] 8:=SliceT.mk' (.int .i64 0) 1 Try.underlying22 (by kernel_rfl) rfl rfl
theorem T.bools:SliceT Try.prog 42 4 [.bool false] 1:=SliceT.mk' (.bool false) 1 Try.underlying42 (by kernel_rfl) rfl rfl
abbrev ints (l:List Int):List Value:=l.map (Value.int .i64)
abbrev bools (l:List Bool):List Value:=l.map Value.bool
end Go.Proofs.Yteamkjblpglliaa
end
section
set_option linter.unusedSimpArgs false
set_option linter.unusedVariables false
namespace Go.Proofs.Yteamkjblpglliaa
open Go.RowKit Go.SL
structure Edge where
 f:Int
 t:Int
 c:Int
 deriving DecidableEq,Inhabited
def Ei (e:Edge):List Value:=[.int .i64 e.f,.int .i64 e.t,.int .i64 e.c]
def jS (l:List Edge):List Value:=(l.map Ei).flatten
theorem qE (e:Edge) (l:List Edge):jS (e::l)=Ei e++jS l:=rfl
theorem kS (l:List Edge):(jS l).length=l.length*3:=by
 induction l with
 | nil=>rfl
 | cons e l ih=>rw [qE,List.length_append,ih];simp [Ei];omega
theorem FH (l:List Edge):∀ (k:Nat) (h:k<l.length),(jS l)[k*3]?=some (.int .i64 l[k].f)/\(jS l)[k*3+1]?=some (.int .i64 l[k].t)/\(jS l)[k*3+2]?=some (.int .i64 l[k].c):=by
 induction l with
 | nil=>intro k h;simp at h
 | cons e l ih =>
  intro k h
  cases k with
  | zero=>simp [qE,Ei]
  | succ k =>
   have:=ih k (by simpa using h)
   have e1:(k+1)*3=k*3+3:=by omega
   rw [e1,qE]
   have hl:(Ei e).length=3:=rfl
   rw [List.getElem?_append_right (by omega),List.getElem?_append_right (by omega),List.getElem?_append_right (by omega)]
   simpa [hl,Nat.add_sub_cancel,show k*3+3+1 - 3=k*3+1 by omega,show k*3+3+2 - 3=k*3+2 by omega] using this
theorem T.edges:SliceT Try.prog 36 75 [.int .i64 0,.int .i64 0,.int .i64 0] 24:=SliceT.mk' (.agg #[.int .i64 0,.int .i64 0,.int .i64 0]) 3 Try.underlying36 (by kernel_rfl) rfl rfl
def uO (n:Int) (e:Edge):Prop:=0<=e.f/\e.f<n/\0<=e.t/\e.t<n/\e.f≠e.t/\0<=e.c/\e.c<=1099511627776
structure VNet (n s t:Int) (es:List Edge):Prop where
 n2:2<=n
 n258:n<=258
 s0:0<=s
 sn:s<n
 t0:0<=t
 tn:t<n
 st:s≠t
 len:es.length<=65536
 all:∀e∈es,uO n e
end Go.Proofs.Yteamkjblpglliaa
end
