import Derived.Test.YtlbdmpjnmfmnfaaFsG
set_option linter.unusedSimpArgs false
set_option linter.unusedVariables false
namespace Go.Proofs.Ytlbdmpjnmfmnfaa
open Go.RowKit Go.HL Go.FS
section
variable {fin:List Bool} {al:List A} {w:List Int} {G:List Nd} {most:Int}
def sV (fin:List Bool) (w:List Int) (x:Nd):Bool:=decide (x.2=w.length)&&fin.getD x.1.toNat false
theorem Nb {u:List Int} {S:List Nd} (hS:∀x,x∈S <-> FS.At fin al w u x) (hin:∀x∈S,H5 fin.length w x):Out fin al w u <-> S.any (sV fin w)=true:=by
 simp only [List.any_eq_true,sV,Bool.and_eq_true,decide_eq_true_eq]
 constructor
 ·rintro ⟨p,hp,hf⟩
  exact ⟨_,(hS _).2 hp,rfl,hf.2⟩
 ·rintro ⟨x,hx,h1,h2⟩
  refine ⟨x.1,?_,(hin x hx).1,h2⟩
  rw [<- h1]
  exact (hS x).1 hx
structure AR (fin:List Bool) (al:List A) (w:List Int) (m:Nat) (d:Nat) (lv:List (List Int×List Nd)) (k:Nat) (wds:List (List Int)) (nxt:List (List Int×List Nd)):Prop where
 lvl:lv.map (·.1)=lg fin al w d
 row:∀q∈lv,Row fin al w m q
 wd:wds=upto fin al w d++outs fin al w ((lg fin al w d).take k)
 nx:nxt.map (·.1)=((lg fin al w d).take k).flatMap (ext fin al w)
 nrow:∀q∈nxt,Row fin al w m q
theorem AR.start {m d:Nat} {lv:List (List Int×List Nd)} (h1:lv.map (·.1)=lg fin al w d) (h2:∀q∈lv,Row fin al w m q):AR fin al w m d lv 0 (upto fin al w d) [] :=
 ⟨h1,h2,by simp [outs],by simp,by simp⟩
theorem AR.len {m d k:Nat} {lv nxt:List (List Int×List Nd)} {wds:List (List Int)} (h:AR fin al w m d lv k wds nxt):(lg fin al w d).length=lv.length:=by rw [<- h.lvl,List.length_map]
open Classical in
theorem AR.step {m d k:Nat} {lv nxt rows:List (List Int×List Nd)} {wds wds':List (List Int)} (h:AR fin al w m d lv k wds nxt) (hk:k<lv.length) (h1:rows.map (·.1)=ext fin al w (lv.getD k default).1) (h2:∀q∈rows,Row fin al w m q) (h3:wds'=if Out fin al w (lv.getD k default).1 then wds++[(lv.getD k default).1] else wds):AR fin al w m d lv (k+1) wds' (nxt++rows):=by
 have hl:=h.len
 have hg:(lg fin al w d).getD k default=(lv.getD k default).1:=by
  rw [<- h.lvl]
  simp only [List.getD_eq_getElem?_getD,List.getElem?_map,List.getElem?_eq_getElem hk]
  rfl
 have ht:=dC (l:=lg fin al w d) (k:=k) (by omega)
 rw [hg] at ht
 refine ⟨h.lvl,h.row,?_,?_,fun q hq=>?_⟩
 ·rw [h3,h.wd,ht]
  unfold outs
  rw [List.filter_append]
  by_cases ho:Out fin al w (lv.getD k default).1
  ·rw [if_pos ho,List.append_assoc];congr 2;rw [List.filter_cons_of_pos (by simpa using ho)];rfl
  ·rw [if_neg ho,List.filter_cons_of_neg (by simpa using ho)];simp
 ·rw [List.map_append,h.nx,h1,ht,List.flatMap_append];simp
 ·rcases List.mem_append.1 hq with hq|hq
  ·exact h.nrow q hq
  ·exact h2 q hq
theorem AR.done {m d k:Nat} {lv nxt:List (List Int×List Nd)} {wds:List (List Int)} (h:AR fin al w m d lv k wds nxt) (hk:lv.length<=k):wds=upto fin al w (d+1)/\nxt.map (·.1)=lg fin al w (d+1):=by
 have e:(lg fin al w d).take k=lg fin al w d:=List.take_of_length_le (by rw [h.len];exact hk)
 refine ⟨by rw [h.wd,e];rfl,by rw [h.nx,e];rfl⟩
theorem AR.mst (hk:uz al) {m d k:Nat} {lv nxt:List (List Int×List Nd)} {wds:List (List Int)} (h:AR fin al w m d lv k wds nxt) {l:List (List Int)} (hl:Lst fin al w most l):(wds.length:Int)<=most/\(nxt.length:Int)<=most:=by
 have e:lg fin al w d=(lg fin al w d).take k++(lg fin al w d).drop k:=(List.take_append_drop k _).symm
 constructor
 ·have h1:=KP hk (d:=d+1) hl
  have:wds.length<=(upto fin al w (d+1)).length:=by
   rw [h.wd]
   simp only [upto,outs,List.length_append]
   rw [e,List.filter_append]
   simp only [List.length_append,List.take_append_drop]
   omega
  omega
 ·have h1:=Pe hk (d:=d+1) hl
  have:nxt.length<=(lg fin al w (d+1)).length:=by
   rw [<- List.length_map (f:=(·.1)),h.nx]
   show _<=((lg fin al w d).flatMap (ext fin al w)).length
   rw [e,List.flatMap_append]
   simp only [List.length_append,List.take_append_drop]
   omega
  omega
theorem KR (hk:uz al) (hG:∀x,x∈G <-> FS.Good fin al w x) {m d:Nat} {lv:List (List Int×List Nd)} (h1:lv.map (·.1)=lg fin al w d) (hn:0<lv.length) (hd:G.length<d) (l:List (List Int)):¬ Lst fin al w most l :=
 Eo hk (fun x hx=>(hG x).2 hx) hd (fun h=>by rw [h] at h1;simp at h1;subst h1;simp at hn)
theorem ML {d:Nat} (h1:lg fin al w d=[]) (h2:((upto fin al w d).length:Int)<=most):Lst fin al w most (upto fin al w d):=⟨d,h1,rfl,h2⟩
theorem WU (hG:∀x,x∈G <-> FS.Good fin al w x):lg fin al w 0=if (((0,0):Nd)∈G) then [[]] else []:=by
 have:Beg fin al w [] <-> ((0,0):Nd)∈G:=by
  rw [hG]
  constructor
  ·rintro ⟨y,hy⟩
   rw [at_nil] at hy
   induction hy with
   | on h=>exact h.2
   | eps _ _ _ ih=>exact ih
  ·intro h;exact ⟨_,.nil h⟩
 unfold lg
 by_cases h:((0,0):Nd)∈G
 ·rw [if_pos h,if_pos (this.2 h)]
 ·rw [if_neg h,if_neg (fun h2=>h (this.1 h2))]
theorem row0 (hG:∀x,x∈G <-> FS.Good fin al w x) (h:((0,0):Nd)∈G) {L:List Nd} (hL:∀x,x∈L <-> Cl fin al w (·∈[((0,0):Nd)]) x) (hl:L.length<=1+G.length):Row fin al w G.length ([],L):=by
 have hg:=(hG _).1 h
 refine ⟨fun x=>?_,by have:=List.length_pos_of_mem h;simp only;omega⟩
 rw [hL,at_nil]
 have e:(fun x=>x∈[((0,0):Nd)])=fun x=>x=(0,0)/\FS.Good fin al w (0,0):=by
  funext x;simp [hg]
 rw [e]
theorem IC (hk:uz al) {d:Nat} {v:List Int} (h:v∈lg fin al w d):v.length=d:=((jW hk).1 h).2
end
end Go.Proofs.Ytlbdmpjnmfmnfaa
