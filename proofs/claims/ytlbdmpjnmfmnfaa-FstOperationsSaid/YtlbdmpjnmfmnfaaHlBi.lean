import Derived.Test.YtlbdmpjnmfmnfaaHlLo
import Derived.Lib.AppendZeros
set_option linter.unusedSimpArgs false
set_option linter.unusedVariables false
namespace Go.HL
open Go.RowKit
section
variable {P:Program}
theorem VW {ro:Oper} {x:HX} (h:aT P ro=.bi .cap [] [] [x]):∃y t e,ro.op=.call ⟨.builtin .cap,⟨[y]⟩,⟨[t]⟩⟩/\P.underlying t=some (.slice e)/\dZ y=x:=by
 obtain ⟨dst,op,type,pos,after,guard⟩:=ro
 unfold aT at h
 repeat' split at h
 all_goals (try (cases h;done))
 all_goals (try (simp only [yh,qN] at h;split at h<;>cases h;done))
 all_goals (try (split at h<;>cases h;done))
 all_goals (try (cases h))
 rename_i x1 c h1 x2 h2 x3 x4 y t h3 h4 x5 e h5
 obtain ⟨callee,⟨args⟩,⟨ts⟩⟩:=c
 simp only at h2 h3 h4
 subst h2 h3 h4
 exact ⟨y,t,e,h1,h5,rfl⟩
theorem Uk {ro:Oper} {ns:List Nat} {zs:List HV} {x y:HX} (h:aT P ro=.bi .append ns zs [x,y]):∃s v t tn e k i z,ro.op=.call ⟨.builtin .append,⟨[s,v]⟩,⟨[t,tn]⟩⟩/\P.underlying t=some (.slice e)/\P.underlying tn=some (.int k)/\P.info? e=some i/\i.zero=some z/\z.cells.size=i.size/\0<i.size/\ns=[i.size,i.bytes]/\zs=MV P e (z.cells.toList.map ofVal1)/\dZ s=x/\dZ v=y:=by
 obtain ⟨dst,op,type,pos,after,guard⟩:=ro
 unfold aT at h
 repeat' split at h
 all_goals (try (cases h;done))
 all_goals (try (simp only [yh,qN] at h;split at h<;>cases h;done))
 all_goals (try (split at h<;>cases h;done))
 all_goals (try (cases h))
 rename_i x1 c h1 x2 h2 x3 x4 sv v t tn h3 h4 x5 x6 e k h5 h6 x7 i h7 x8 z h8 h9
 obtain ⟨callee,⟨args⟩,⟨ts⟩⟩:=c
 simp only at h2 h3 h4
 subst h2 h3 h4
 exact ⟨_,_,_,_,_,_,_,_,h1,h5,h6,h7,h8,h9.1,h9.2,rfl,rfl,rfl,rfl⟩
theorem xY {E:Fr} {ro:Oper} {t:Nat} {op:HOp HX} (hd:(bf P E.ok ro).dst=some t) (ho:(bf P E.ok ro).op=op) (hb:op≠.bad):ro.dst=some t/\aT P ro=op/\E.ok t=true:=by
 have hdst:ro.dst=some t:=hd
 unfold bf at ho
 by_cases h:(ro.dst.all fun d=>E.ok d)=true
 ·exact ⟨hdst,by simpa [h] using ho,by simpa [hdst] using h⟩
 ·simp [h] at ho;exact absurd ho.symm hb
theorem aaz {s:St} {i t:Nat} {x:HX} {K:St->Prop} (hx:ev s.sl x=.nils) (hK:K (s.put (some t) (.int .i64 0))):rZ P s i (some t) (.bi .cap [] [] [x]) K:=by
 intro E ro a w next Q hd ho hr hn
 obtain ⟨hdst,hop,hok⟩:=xY hd ho (by simp)
 obtain ⟨y,ty,e,hcall,hty,rfl⟩:=VW hop
 obtain ⟨loc,fp,hr⟩:=hr
 have hv:=hr.val y
 rw [<- jl] at hv
 rw [hx] at hv
 have hy:=fQ hv
 have hrun:(execOp a.eval ro).run P w=.ok (.value (.int .i64 0)) w:=by
  obtain ⟨dst,op,type,pos,after,guard⟩:=ro
  simp only at hcall
  subst hcall
  simp [execOp,resolve,invoke,builtin,Builtin.cap_,run_underlying hty,hy,goInt]
 unfold Oper.wp
 rw [hrun]
 show next (a.put ro.dst (.int .i64 0)) w
 rw [hdst]
 have hA:After E (s.nx+stride*i) s.S s.M [] (.int .i64 0) (.int .i64 0) a w:=hr.pure (bg _) (.int .nil)
 have h3:=SRel.done (s:=s) (d:=some t) hA (fun t' ht=>by cases ht;exact hok)
 exact hn (s.put (some t) (.int .i64 0)) _ _ (St.put_nx _ _ _) (h3.up (by unfold stride;omega)) hK
theorem Vu {ro:Oper} {sz:Nat} {x y:HX} (h:aT P ro=.slc sz x none (some y)):∃t v hv e i,ro.op=.slice t v none (some hv) none/\P.underlying t=some (.slice e)/\P.info? e=some i/\dZ v=x/\dZ hv=y:=by
 obtain ⟨dst,op,type,pos,after,guard⟩:=ro
 unfold aT at h
 repeat' split at h
 all_goals (try (cases h;done))
 all_goals (try (simp only [yh,qN] at h;split at h<;>cases h;done))
 all_goals (try (split at h<;>cases h;done))
 rename_i x1 t x lo hi h1 x2 e h2 x3 i h3
 cases lo<;>cases hi<;>simp only [Option.map_none,iq,HOp.slc.injEq,reduceCtorEq,and_false,false_and,cO] at h
 obtain ⟨_,rfl,_,rfl⟩:=h
 exact ⟨_,_,_,_,_,h1,h2,h3,rfl,rfl⟩
theorem Yz {s:St} {i t sz:Nat} {x y:HX} {K:St->Prop} (hx:ev s.sl x=.nils) (hy:ev s.sl y=.int .i64 0) (hK:K (s.put (some t) .nils)):rZ P s i (some t) (.slc sz x none (some y)) K:=by
 intro E ro a w next Q hd ho hr hn
 obtain ⟨hdst,hop,hok⟩:=xY hd ho (by simp)
 obtain ⟨ty,v,hi,e,inf,hcall,hty,hinf,rfl,rfl⟩:=Vu hop
 obtain ⟨loc,fp,hr⟩:=hr
 have hv:=hr.val v
 have hw:=hr.val hi
 rw [<- jl] at hv hw
 rw [hx] at hv
 rw [hy] at hw
 have e1:=fQ hv
 have e2:=of_int hw
 have hrun:(execOp a.eval ro).run P w=.ok (.value (.slice none 0 0)) w:=by
  obtain ⟨dst,op,type,pos,after,guard⟩:=ro
  simp only at hcall
  subst hcall
  have h1:(Instr.sliceAt ty (.slice none 0 0) none (some (.int .i64 0)) none).run P w=.ok (.slice none 0 0) w:=by
   simp [Instr.sliceAt,Instr.slice,run_underlying hty,Instr.sliceBounds,Instr.sliceBound,asIntOf,sizeOf,typeInfo,hinf,go_sem]
  simp only [execOp,e1,e2,Option.map_none,iq,Sem.run_bind,h1,Result.andThen_ok,Sem.run_pure]
 unfold Oper.wp
 rw [hrun]
 show next (a.put ro.dst (.slice none 0 0)) w
 rw [hdst]
 have hA:After E (s.nx+stride*i) s.S s.M [] .nils (.slice none 0 0) a w:=hr.pure (bg _) (.nils .nil)
 have h3:=SRel.done (s:=s) (d:=some t) hA (fun t' ht=>by cases ht;exact hok)
 exact hn (s.put (some t) .nils) _ _ (St.put_nx _ _ _) (h3.up (by unfold stride;omega)) hK
theorem Ht (zc:Array Value) (hp:0<zc.size) (n:Nat):(Builtin.zeroCells zc n).toList=(List.replicate n zc.toList).flatten:=by
 induction n with
 | zero=>simp [Builtin.zeroCells]
 | succ n ih =>
  rw [TV,List.flatten_append,<- ih]
  apply nN
  intro j
  by_cases h1:j<n*zc.size
  ·rw [GH (by simp [Builtin.zeroCells];exact h1)]
   have h2:j<(n+1)*zc.size:=by rw [EE];omega
   simp [Builtin.zeroCells,h1,h2]
  ·rw [NU (by simp [Builtin.zeroCells];omega)]
   by_cases h2:j<(n+1)*zc.size
   ·have e:j % zc.size=j - n*zc.size:=by
     rw [EE] at h2
     have:j=(j - n*zc.size)+n*zc.size:=by omega
     rw [this,Nat.add_mul_mod_self_right,Nat.mod_eq_of_lt (by omega)]
     omega
    have h3:j - n*zc.size<zc.size:=by rw [EE] at h2;omega
    simp [Builtin.zeroCells,h2,e,h3]
   ·have h3:¬ j - n*zc.size<zc.size:=by rw [EE] at h2;omega
    simp [Builtin.zeroCells,h2,h3]
theorem ZL {F:Nat->Prop} {h:Hp} {cs:List HV} {rvs:List Value} (o:OW F h dG cs rvs []) (n:Nat):OW F h dG (List.replicate n cs).flatten (List.replicate n rvs).flatten []:=by
 induction n with
 | zero=>exact .nil
 | succ n ih =>
  simp only [xB,Gz]
  simpa using o.append ih
theorem Yc {s:St} {i t sz bytes n:Nat} {zs:List HV} {x y:HX} {K:St->Prop} (hx:ev s.sl x=.nils) (hy:ev s.sl y=.int .i64 n) (h0:0<n) (hb:n*bytes<=281474976710656) (hm:n<=maxLen)
  (hK:K ((s.upd [.put (s.nx+stride*i) (.osl sz n (List.replicate n zs).flatten)]).put (some t) (.ref (s.nx+stride*i) [] sz 0 n))):rZ P s i (some t) (.bi .append [sz,bytes] zs [x,y]) K:=by
 intro E ro a w next Q hd ho hr hn
 obtain ⟨hdst,hop,hok⟩:=xY hd ho (by simp)
 obtain ⟨sv,v,ty,tn,e,k,inf,z,hcall,hty,htn,hi,hz,hzs,hpos,hns,rfl,rfl,rfl⟩:=Uk hop
 obtain ⟨rfl,rfl⟩:sz=inf.size/\bytes=inf.bytes:=by simpa using hns
 obtain ⟨loc,fp,hr⟩:=hr
 have hv:=hr.val sv
 have hw:=hr.val v
 rw [<- jl] at hv hw
 rw [hx] at hv
 rw [hy] at hw
 have e1:=fQ hv
 have e2:=of_int hw
 have hrun:(execOp a.eval ro).run P w=.ok (.value (.slice (some ⟨w.heap.size,0,none⟩) n (grownCap w n 0 e))) (w.drew.alloc (.cells (Builtin.zeroCells z.cells n++Builtin.zeroCells z.cells (grownCap w n 0 e - n)) e)):=by
  have h1:=Lib.run_append_nil_zeros (P:=P) w ty tn ro.type e inf z .i64 k hty htn hi hz n h0 hpos (by unfold maxLen at hm;omega) hb
  obtain ⟨dst,op,type,pos,after,guard⟩:=ro
  simp only at hcall h1
  subst hcall
  simp [execOp,resolve,invoke,builtin,e1,e2,h1]
 unfold Oper.wp
 rw [hrun]
 show next (a.put ro.dst _) _
 rw [hdst]
 let w':=w.drew.alloc (.cells (Builtin.zeroCells z.cells n++Builtin.zeroCells z.cells (grownCap w n 0 e - n)) e)
 have old:∀b,b<w.heap.size->w'.heap[b]?=w.heap[b]?:=fun b hb=>fE w.drew _ hb
 have hsz:w'.heap.size=w.heap.size+1:=dJ w.drew _
 have hrow:OW (dY E fp w) w'.heap dG (List.replicate n (MV P e (z.cells.toList.map ofVal1))).flatten (Builtin.zeroCells z.cells n).toList []:=by
  rw [Ht _ (by rw [hzs];exact hpos)]
  exact ZL (NV (OW.ofVals _)) n
 have hg:=vH (n:=n) (sz:=inf.size) (z:=z) (e:=e) hrow (by rw [hrow.length,uB,size_zeroCells,hzs]) hzs (grownCap_ge w n 0 e) (grownCap_le_maxLen w n 0 e hm) (g:=w.heap.size) (by
  rw [Array.toArray_toList];exact iy w.drew _ rfl)
 obtain ⟨h1,h2,h3⟩:=hr.make (bg _) (T:=.osl inf.size n (List.replicate n (MV P e (z.cells.toList.map ofVal1))).flatten) (rT:=.slice (some ⟨w.heap.size,0,none⟩) n (grownCap w n 0 e)) (fT:=[w.heap.size]) (w':=w') (by omega) rfl rfl rfl old hg (by simp [hsz]) (by simp) (by simp)
 have hA:After E (s.nx+stride*i+1) s.S s.M [.put (s.nx+stride*i) (.osl inf.size n (List.replicate n (MV P e (z.cells.toList.map ofVal1))).flatten)] (.ref (s.nx+stride*i) [] inf.size 0 n) (.slice (some ⟨w.heap.size,0,none⟩) n (grownCap w n 0 e)) a w' :=
  ⟨_,_,h1,dB rfl (zB hg (by simp [Lk.upd]) (by simp))⟩
 have h4:=SRel.done (s:=s) (d:=some t) hA (fun t' ht=>by cases ht;exact hok)
 exact hn _ _ _ (by rw [St.put_nx,St.upd_nx]) (h4.up (by unfold stride;omega)) hK
section
variable {C:CallSpec} {all r:List af} {i t:Nat} {k:List HI} {rs:List Nat} {K:HV->Prop} {sl st:List (Nat×HV)} {nx:Nat} {x y:HX}
theorem WL [ok:Ok (HS P) k] (hx:ev sl x=.nils) (h:G P (HS P) all r (i+1) k rs K ((t,.int .i64 0)::sl) st nx):G P (HS P) all (⟨some t,.bi .cap [] [] [x],none⟩::r) i k rs K sl st nx:=by
 refine rE (aaz (s:=⟨sl,st,nx⟩) hx ?_)
 refine kL ok.mono ok.plain ?_ h
 refine ⟨?_,rfl,rfl⟩
 funext j
 exact DL j t (.int .i64 0) sl
theorem aci [ok:Ok (HS P) k] {sz:Nat} (hx:ev sl x=.nils) (hy:ev sl y=.int .i64 0) (h:G P (HS P) all r (i+1) k rs K ((t,.nils)::sl) st nx):G P (HS P) all (⟨some t,.slc sz x none (some y),none⟩::r) i k rs K sl st nx:=by
 refine rE (Yz (s:=⟨sl,st,nx⟩) hx hy ?_)
 refine kL ok.mono ok.plain ?_ h
 refine ⟨?_,rfl,rfl⟩
 funext j
 exact DL j t .nils sl
theorem ab3 [ok:Ok (HS P) k] {sz bytes n fr:Nat} {zs cs:List HV} (hx:ev sl x=.nils) (hy:ev sl y=.int .i64 n) (h0:0<n) (hb:n*bytes<=281474976710656) (hm:n<=maxLen) (hf:nx+stride*i=fr) (hc:(List.replicate n zs).flatten=cs)
  (h:G P (HS P) all r (i+1) k rs K ((t,.ref fr [] sz 0 n)::sl) ((fr,.osl sz n cs)::st) nx):G P (HS P) all (⟨some t,.bi .append [sz,bytes] zs [x,y],none⟩::r) i k rs K sl st nx:=by
 subst hf hc
 refine rE (Yc (s:=⟨sl,st,nx⟩) hx hy h0 hb hm ?_)
 refine kL ok.mono ok.plain (nV (d:=some t) (v:=.ref (nx+stride*i) [] sz 0 n) (us:=[.put (nx+stride*i) (.osl sz n (List.replicate n zs).flatten)]) ?_) h
 rfl
end
end
end Go.HL
