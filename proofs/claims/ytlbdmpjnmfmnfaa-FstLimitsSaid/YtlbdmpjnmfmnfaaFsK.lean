import Derived.Test.YtlbdmpjnmfmnfaaFsV
import Derived.Test.YtlbdmpjnmfmnfaaFsD
import Derived.Test.YtlbdmpjnmfmnfaaFsH
section
set_option linter.unusedSimpArgs false
set_option linter.unusedVariables false
namespace Go.Proofs.Ytlbdmpjnmfmnfaa
open Go.RowKit Go.HL Go.FS
section
variable {fin:List Bool} {al:List A} {w:List Int} {G:List Nd} {most:Int}
def vC (fin:List Bool) (w:List Int) (x:Nd):Bool:=decide (x.2=w.length)&&fin.getD x.1.toNat false
theorem PD {u:List Int} {S:List Nd} (hS:∀x,x∈S <-> FS.At fin al w u x) (hin:∀x∈S,JA fin.length w x):Out fin al w u <-> S.any (vC fin w)=true:=by
 simp only [List.any_eq_true,vC,Bool.and_eq_true,decide_eq_true_eq]
 constructor
 ·rintro ⟨p,hp,hf⟩
  exact ⟨_,(hS _).2 hp,rfl,hf.2⟩
 ·rintro ⟨x,hx,h1,h2⟩
  refine ⟨x.1,?_,(hin x hx).1,h2⟩
  rw [<- h1]
  exact (hS x).1 hx
structure AR (fin:List Bool) (al:List A) (w:List Int) (m:Nat) (d:Nat) (lv:List (List Int×List Nd)) (k:Nat) (wds:List (List Int)) (nxt:List (List Int×List Nd)):Prop where
 lvl:lv.map (·.1)=mQ fin al w d
 row:∀q∈lv,Row fin al w m q
 wd:wds=upto fin al w d++outs fin al w ((mQ fin al w d).take k)
 nx:nxt.map (·.1)=((mQ fin al w d).take k).flatMap (ext fin al w)
 nrow:∀q∈nxt,Row fin al w m q
theorem AR.start {m d:Nat} {lv:List (List Int×List Nd)} (h1:lv.map (·.1)=mQ fin al w d) (h2:∀q∈lv,Row fin al w m q):AR fin al w m d lv 0 (upto fin al w d) [] :=
 ⟨h1,h2,by simp [outs],by simp,by simp⟩
theorem AR.len {m d k:Nat} {lv nxt:List (List Int×List Nd)} {wds:List (List Int)} (h:AR fin al w m d lv k wds nxt):(mQ fin al w d).length=lv.length:=by rw [<- h.lvl,List.length_map]
open Classical in
theorem AR.step {m d k:Nat} {lv nxt rows:List (List Int×List Nd)} {wds wds':List (List Int)} (h:AR fin al w m d lv k wds nxt) (hk:k<lv.length) (h1:rows.map (·.1)=ext fin al w (lv.getD k default).1) (h2:∀q∈rows,Row fin al w m q) (h3:wds'=if Out fin al w (lv.getD k default).1 then wds++[(lv.getD k default).1] else wds):AR fin al w m d lv (k+1) wds' (nxt++rows):=by
 have hl:=h.len
 have hg:(mQ fin al w d).getD k default=(lv.getD k default).1:=by
  rw [<- h.lvl]
  simp only [List.getD_eq_getElem?_getD,List.getElem?_map,List.getElem?_eq_getElem hk]
  rfl
 have ht:=dC (l:=mQ fin al w d) (k:=k) (by omega)
 rw [hg] at ht
 refine ⟨h.lvl,h.row,?_,?_,fun q hq=>?_⟩
 ·rw [h3,h.wd,ht]
  unfold outs
  rw [List.filter_append]
  by_cases ho:Out fin al w (lv.getD k default).1
  ·rw [if_pos ho,List.append_assoc];congr 2;rw [List.filter_cons_of_pos (by simpa using ho)];rfl
  ·rw [if_neg ho,List.filter_cons_of_neg (by simpa using ho)];simp
 ·rw [List.map_append,h.nx,h1,ht,List.flatMap_append];simp
 ·rcases List.mem_append.1 hq with hq|hq
  ·exact h.nrow q hq
  ·exact h2 q hq
theorem AR.done {m d k:Nat} {lv nxt:List (List Int×List Nd)} {wds:List (List Int)} (h:AR fin al w m d lv k wds nxt) (hk:lv.length<=k):wds=upto fin al w (d+1)/\nxt.map (·.1)=mQ fin al w (d+1):=by
 have e:(mQ fin al w d).take k=mQ fin al w d:=List.take_of_length_le (by rw [h.len];exact hk)
 refine ⟨by rw [h.wd,e];rfl,by rw [h.nx,e];rfl⟩
theorem AR.mst (hk:vU al) {m d k:Nat} {lv nxt:List (List Int×List Nd)} {wds:List (List Int)} (h:AR fin al w m d lv k wds nxt) {l:List (List Int)} (hl:Lst fin al w most l):(wds.length:Int)<=most/\(nxt.length:Int)<=most:=by
 have e:mQ fin al w d=(mQ fin al w d).take k++(mQ fin al w d).drop k:=(List.take_append_drop k _).symm
 constructor
 ·have h1:=OT hk (d:=d+1) hl
  have:wds.length<=(upto fin al w (d+1)).length:=by
   rw [h.wd]
   simp only [upto,outs,List.length_append]
   rw [e,List.filter_append]
   simp only [List.length_append,List.take_append_drop]
   omega
  omega
 ·have h1:=Rt hk (d:=d+1) hl
  have:nxt.length<=(mQ fin al w (d+1)).length:=by
   rw [<- List.length_map (f:=(·.1)),h.nx]
   show _<=((mQ fin al w d).flatMap (ext fin al w)).length
   rw [e,List.flatMap_append]
   simp only [List.length_append,List.take_append_drop]
   omega
  omega
theorem Qa (hk:vU al) (hG:∀x,x∈G <-> FS.Good fin al w x) {m d:Nat} {lv:List (List Int×List Nd)} (h1:lv.map (·.1)=mQ fin al w d) (hn:0<lv.length) (hd:G.length<d) (l:List (List Int)):¬ Lst fin al w most l :=
 Gw hk (fun x hx=>(hG x).2 hx) hd (fun h=>by rw [h] at h1;simp at h1;subst h1;simp at hn)
theorem OU {d:Nat} (h1:mQ fin al w d=[]) (h2:((upto fin al w d).length:Int)<=most):Lst fin al w most (upto fin al w d):=⟨d,h1,rfl,h2⟩
theorem aag (hG:∀x,x∈G <-> FS.Good fin al w x):mQ fin al w 0=if (((0,0):Nd)∈G) then [[]] else []:=by
 have:Beg fin al w [] <-> ((0,0):Nd)∈G:=by
  rw [hG]
  constructor
  ·rintro ⟨y,hy⟩
   rw [at_nil] at hy
   induction hy with
   | on h=>exact h.2
   | eps _ _ _ ih=>exact ih
  ·intro h;exact ⟨_,.nil h⟩
 unfold mQ
 by_cases h:((0,0):Nd)∈G
 ·rw [if_pos h,if_pos (this.2 h)]
 ·rw [if_neg h,if_neg (fun h2=>h (this.1 h2))]
theorem row0 (hG:∀x,x∈G <-> FS.Good fin al w x) (h:((0,0):Nd)∈G) {L:List Nd} (hL:∀x,x∈L <-> Cl fin al w (·∈[((0,0):Nd)]) x) (hl:L.length<=1+G.length):Row fin al w G.length ([],L):=by
 have hg:=(hG _).1 h
 refine ⟨fun x=>?_,by have:=List.length_pos_of_mem h;simp only;omega⟩
 rw [hL,at_nil]
 have e:(fun x=>x∈[((0,0):Nd)])=fun x=>x=(0,0)/\FS.Good fin al w (0,0):=by
  funext x;simp [hg]
 rw [e]
theorem LH (hk:vU al) {d:Nat} {v:List Int} (h:v∈mQ fin al w d):v.length=d:=((kU hk).1 h).2
end
end Go.Proofs.Ytlbdmpjnmfmnfaa
end
section
set_option linter.unusedSimpArgs false
set_option linter.unusedVariables false
namespace Go.Proofs.Ytlbdmpjnmfmnfaa
open Go.RowKit Go.HL Go.FS
theorem JR (fin:List Bool) (al:List A) (w:List Int) (x:Nd) (h0:0<=x.1) (h1:x.1<fin.length) (hw:w.length<=1024):HT Try.prog 57 [.agg [.int .i64 x.1,.int .i64 x.2],.ptr [.sl w.length (HL.ints w)] 0,.ptr (iF fin al) 0] (fun r=>r=.bool (vC fin w x)):=by
 refine HT.of rfl aaf (Nat.le_of_ble_eq_true rfl) ?_
 unfold c57
 simp only [aY,Nat.reduceAdd,iF,jJ]
 by_cases h:x.2=w.length
 ·repeat (first|refine ah ?_|refine aT ?_|refine bu ?_|refine dP ?_|refine aW ?_|refine af ?_|refine dV ?_|refine aU ?_|refine dm (by rfl) ?_|refine ak ?_|refine ae ?_|refine dh ?_|refine aH ?_|refine dX ?_)
  refine ay ?_
  simp [dE,vC,h]
 ·repeat (first|refine ah ?_|refine dI ?_|refine dP ?_|refine aW ?_|refine af ?_|refine dV ?_|refine aS ?_|refine dm (by rfl) ?_|refine ak ?_|refine ae ?_|refine aH ?_|refine dX ?_)
  refine ay ?_
  simp [dE,vC,h]
theorem JV (fin:List Bool) (al:List A) (w:List Int) (l:List Nd) (hin:∀x∈l,JA fin.length w x) (hw:w.length<=1024) (hl:l.length<=100000000):HT Try.prog 100 [.sl l.length (nY l),.fn 57 [.ptr [.sl w.length (HL.ints w)] 0,.ptr (iF fin al) 0]] (fun r=>∃z:Int,r=.int .i64 z/\(0<=z <-> l.any (vC fin w)=true)):=by
 refine HT.of rfl Zk (Nat.le_of_ble_eq_true rfl) ?_
 unfold Xl
 simp only [aY,Nat.reduceAdd]
 repeat (first|refine ah ?_|refine af ?_|refine dm (by rfl) ?_|refine ak ?_|refine ae ?_|refine aK ?_)
 refine dn [0,1,7,8] (fun k:Nat=>k<=l.length/\(l.take k).any (vC fin w)=false)
  (fun k=>⟨[(0,.sl l.length (nY l)),(1,.fn 57 [.ptr [.sl w.length (HL.ints w)] 0,.ptr (iF fin al) 0]),(7,.int .i64 l.length),(8,.int .i64 k)],[],0⟩)
  (fun k=>l.length - k) 0 ⟨by omega,by simp⟩ rfl ?_
 rintro k ⟨hk,hno⟩
 by_cases hkl:k<l.length
 ·have hm:l.getD k default∈l:=by rw [List.getD_eq_getElem?_getD,List.getElem?_eq_getElem hkl];exact List.getElem_mem _
  obtain ⟨g1,g2,_,_⟩:=hin _ hm
  have htk:=dC hkl
  repeat (first|refine ah ?_|refine bu ?_|refine af ?_|refine aF ?_|refine ax ?_|refine ak ?_|refine ae ?_|refine aK ?_|refine aI ?_|refine bG ?_)
  refine Gg (by rfl) bH dw (JR fin al w (l.getD k default) g1 g2 hw) ?_
  rintro _ rfl
  cases hp:vC fin w (l.getD k default)
  ·refine ⟨bJ,_,_,_,_,_,gY,(by decide),bF,?_⟩
   repeat (first|refine ah ?_|refine af ?_|refine bM ?_|refine au ?_|refine ae ?_|refine gV ?_|refine aI ?_)
   exact dS [0,1,7,8] (k+1) ⟨hkl,by rw [htk,List.any_append,hno];simp only [List.any_cons,List.any_nil,hp];rfl⟩ (by omega) rfl
  ·refine ⟨bJ,_,_,_,_,_,gY,(by decide),bF,?_⟩
   repeat (first|refine ah ?_|refine af ?_|refine ax ?_|refine ak ?_|refine ae ?_)
   refine ay ?_
   exact ⟨_,rfl,fun _=>List.any_eq_true.2 ⟨_,hm,hp⟩,fun _=>by omega⟩
 ·obtain rfl:k=l.length:=by omega
  rw [List.take_length] at hno
  repeat (first|refine ah ?_|refine af ?_|refine aF ?_|refine bZ (by rfl) ?_|refine au ?_|refine ak ?_|refine ae ?_)
  refine ay ?_
  exact ⟨_,rfl,fun h=>absurd h (by decide),fun h=>by rw [hno] at h;cases h⟩
theorem I7 (fin:List Bool) (al:List A) (w:List Int) (l:List Nd) (hin:∀x∈l,JA fin.length w x) (hw:w.length<=1024) (hl:l.length<=100000000):HT Try.prog 56 [.sl l.length (nY l),.fn 57 [.ptr [.sl w.length (HL.ints w)] 0,.ptr (iF fin al) 0]] (fun r=>r=.bool (l.any (vC fin w))):=by
 refine HT.of rfl aao (Nat.le_of_ble_eq_true rfl) ?_
 unfold c56
 simp only [aY,Nat.reduceAdd]
 repeat (first|refine ah ?_|refine af ?_|refine ak ?_|refine ae ?_)
 refine bT bH dw (JV fin al w l hin hw hl) ?_
 rintro _ ⟨z,rfl,hz⟩
 refine ⟨bJ,_,_,_,_,_,gY,(by decide),bF,?_⟩
 by_cases h0:0<=z
 ·repeat (first|refine ah ?_|refine af ?_|refine pW (by rfl) (by rfl) jU ?_)
  refine ay ?_
  simp [dE,hz.1 h0,h0]
 ·have:l.any (vC fin w)=false:=by
   cases h:l.any (vC fin w)
   ·rfl
   ·exact absurd (hz.2 h) h0
  rw [this]
  repeat (first|refine ah ?_|refine af ?_|refine pW (by rfl) (by rfl) jU ?_)
  refine ay ?_
  simp [dE,h0]
end Go.Proofs.Ytlbdmpjnmfmnfaa
end
