import Derived.Test.YtlbdmpjnmfmnfaaFs4
import Derived.Test.YtlbdmpjnmfmnfaaFtT
import Derived.Test.YtlbdmpjnmfmnfaaHlLo
import Derived.Lib.AppendZeros
section
set_option linter.unusedSimpArgs false
set_option linter.unusedVariables false
namespace Go.Proofs.Ytlbdmpjnmfmnfaa
set_option linter.unusedSimpArgs false
set_option linter.unnecessarySimpa false
open Go.RowKit Go.HL Go.FS
def iV (d:Int) (a:A):A:=⟨a.f+d,a.i,a.o,a.t+d⟩
def aef (d:Int):DS:=⟨fun _ args r=>∃x:Int,args=[.int .i64 x,.ptr [.int .i64 d] 0]/\r=.int .i64 (x+d),fun _=>false⟩
set_option maxHeartbeats 8000000 in
theorem Rl {k:List HI} [hp:Plain k] {rs:List Nat} {Kp:HV->Prop} (R:List A) (d:Int) (a:A) (X:List HV) (m:Nat) (j:Int) (hR:R.length<=100000000) (hd:0<=d/\d<=1000000) (hf:0<=a.f/\a.f<=1000000) (ht:0<=a.t/\a.t<=1000000)
  {c:HCode} (h:hx Try.prog (.c c::k) (finish rs Kp) ⟨[(0,.ref 0 [] 4 0 (R.length+1)),(2,.fn 104 [.pref 1 [] 0]),(10,.sl m X),(11,.int .i64 m),(12,.int .i64 j)],[(0,.osl 4 (R.length+1) (recs aC (R++[iV d a]))),(1,.optr [.int .i64 d])],2⟩) :
  hx Try.prog (.c NU::.b 1::.c c::k) (finish rs Kp) ⟨[(0,.ref 0 [] 4 0 R.length),(2,.fn 104 [.pref 1 [] 0]),(8,.pref 2 [] 0),(10,.sl m X),(11,.int .i64 m),(12,.int .i64 j)],[(0,.osl 4 R.length (recs aC R)),(1,.optr [.int .i64 d]),(2,.optr [.int .i64 a.f,.int .i64 a.i,.int .i64 a.o,.int .i64 a.t])],3⟩:=by
 unfold NU
 refine vX (aef d) aT ?_
 refine jJ (.ref 0 [] 4 0 R.length) _ rfl rfl (by trivial) rfl aT ?_
 refine jJ (.fn 104 [.pref 1 [] 0]) _ rfl rfl (by trivial) rfl aT ?_
 refine jJ (.pref 2 [] 0) _ rfl rfl (by trivial) rfl aT ?_
 refine jJ (.int .i64 a.f) _ rfl rfl (Nat.le_of_ble_eq_true rfl) rfl aT ?_
 refine Jk (f:=104) (cap:=[.pref 1 [] 0]) (vs:=[.int .i64 a.f]) (args:=[.int .i64 a.f,.ptr [.int .i64 d] 0]) rfl rfl rfl ((F5 a.f d (by omega) (by omega) hd.1 hd.2).imp fun r h=>⟨_,rfl,h⟩) ⟨_,⟨_,rfl,rfl⟩,rfl⟩ rfl ?_
 rintro _ ⟨x,hx1,rfl⟩ -
 obtain rfl:x=a.f:=by simpa using hx1.symm
 refine ⟨by simp [HV.noRd],_,_,_,_,_,_,rfl,by simp [stride],rfl,by kernel_rfl,kF,?_⟩
 refine jJ (.pref 2 [] 1) _ rfl rfl (by trivial) rfl aT ?_
 refine jJ (.int .i64 a.i) _ rfl rfl (Nat.le_of_ble_eq_true rfl) rfl aT ?_
 refine jJ (.pref 2 [] 2) _ rfl rfl (by trivial) rfl aT ?_
 refine jJ (.int .i64 a.o) _ rfl rfl (Nat.le_of_ble_eq_true rfl) rfl aT ?_
 refine jJ (.fn 104 [.pref 1 [] 0]) _ rfl rfl (by trivial) rfl aT ?_
 refine jJ (.pref 2 [] 3) _ rfl rfl (by trivial) rfl aT ?_
 refine jJ (.int .i64 a.t) _ rfl rfl (Nat.le_of_ble_eq_true rfl) rfl aT ?_
 refine Jk (f:=104) (cap:=[.pref 1 [] 0]) (vs:=[.int .i64 a.t]) (args:=[.int .i64 a.t,.ptr [.int .i64 d] 0]) rfl rfl rfl ((F5 a.t d (by omega) (by omega) hd.1 hd.2).imp fun r h=>⟨_,rfl,h⟩) ⟨_,⟨_,rfl,rfl⟩,rfl⟩ rfl ?_
 rintro _ ⟨x,hx1,rfl⟩ -
 obtain rfl:x=a.t:=by simpa using hx1.symm
 refine ⟨by simp [HV.noRd],_,_,_,_,_,_,rfl,by simp [stride],rfl,by kernel_rfl,kF,?_⟩
 refine jJ (.agg [.int .i64 (a.f+d),.int .i64 a.i,.int .i64 a.o,.int .i64 (a.t+d)]) _ rfl rfl (by simp [kM,setFrom,cellsOf,tN,ev,aG]) rfl aT ?_
 refine FD (.ref 227 [] 4 0 1) [.put 227 (.osl 4 1 [.int .i64 (a.f+d),.int .i64 a.i,.int .i64 a.o,.int .i64 (a.t+d)])] rfl rfl rfl (by refine ⟨?_,rfl,rfl⟩;repeat (first|trivial|refine ⟨?_,?_⟩)) rfl rfl aT kF ?_
 refine FD (side:=(4=4/\0+1*4<=4/\true=true)/\(R.length+1)*32<=140737488355328/\R.length+1<=maxLen/\4=4/\0+R.length*4<=(recs aC R).length) (.ref 243 [] 4 0 (R.length+1)) [.put 0 .dead,.put 243 (.osl 4 (R.length+1) (recs aC (R++[iV d a])))] rfl rfl ?_ ⟨⟨rfl,by omega,rfl⟩,by omega,by unfold maxLen;omega,rfl,by rw [yu];omega⟩ rfl rfl aT kF ?_
 ·have hw:win (recs aC R) 0 (R.length*4)++[HV.int .i64 (a.f+d),.int .i64 a.i,.int .i64 a.o,.int .i64 (a.t+d)]=recs aC (R++[iV d a]):=by
   rw [yS _ rfl,xh];rfl
  show (HV.ref 243 [] 4 0 (R.length+1),[Upd.put 0 .dead,.put 243 (.osl 4 (R.length+1) (win (recs aC R) 0 (R.length*4)++[HV.int .i64 (a.f+d),.int .i64 a.i,.int .i64 a.o,.int .i64 (a.t+d)]))],(4=4/\0+1*4<=4/\true=true)/\(R.length+1)*32<=140737488355328/\R.length+1<=maxLen/\4=4/\0+R.length*4<=(recs aC R).length)=_
  rw [hw]
 refine jJ (.ref 243 [] 4 0 (R.length+1)) _ rfl rfl (by trivial) rfl aT ?_
 refine Ja rfl ?_
 refine fK ?_
 exact dV [0,2,10,11,12] _ rfl h
theorem Qq (R:List A) (d:Int) {l:List A} {i:Nat} (h:i<l.length):R++(l.take (i+1)).map (iV d)=(R++(l.take i).map (iV d))++[iV d (l.getD i default)]:=by
 rw [dw h];simp
set_option maxHeartbeats 4000000 in
theorem Qx (R:List A) (fin:List Bool) (al:List A) (d:Int) (hv:okF fin al=true) (hd:0<=d/\d<=1000000) (hR:R.length<=1000000) :
  HTM Try.prog 75 [.osl 4 R.length (recs aC R),.agg (iC fin al),.fn 104 [.optr [.int .i64 d]]] (fun r=>r=.osl 4 (R++al.map (iV d)).length (recs aC (R++al.map (iV d)))):=by
 refine HTM.of rfl adQ (Nat.le_of_ble_eq_true rfl) (⟨[(0,.ref 0 [] 4 0 R.length),(1,.agg (iC fin al)),(2,.fn 104 [.pref 1 [] 0])],[(0,.osl 4 R.length (recs aC R)),(1,.optr [.int .i64 d])],2⟩:St) rfl ?_
 unfold c75
 obtain ⟨h1,h2,h3⟩:=dR hv
 have hin:=fun a (ha:a∈al)=>dh hv ha
 simp only [iC,jX]
 repeat (first|refine ah ?_|refine aZ ?_|refine af ?_|refine aQ ?_|refine ak ?_|refine ae ?_|refine aB ?_|refine bU ?_|refine aI ?_|refine dU ?_)
 refine cu [0,2,10,11,12] (fun i:Nat=>i<=al.length)
  (fun i=>⟨[(0,.ref 0 [] 4 0 (R++(al.take i).map (iV d)).length),(2,.fn 104 [.pref 1 [] 0]),(10,.sl al.length (recs aC al)),(11,.int .i64 al.length),(12,.int .i64 i)],[(0,.osl 4 (R++(al.take i).map (iV d)).length (recs aC (R++(al.take i).map (iV d)))),(1,.optr [.int .i64 d])],2⟩)
  (fun i=>al.length - i) 0 (by omega) (by simp;rfl) ?_
 intro i hi
 have hl:(R++(al.take i).map (iV d)).length<=R.length+i:=by rw [List.length_append,List.length_map,List.length_take];omega
 by_cases hil:i<al.length
 ·have hst:=Qq R d hil
  have hok:=hin (al.getD i default) (by rw [List.getD_eq_getElem?_getD,List.getElem?_eq_getElem hil];exact List.getElem_mem hil)
  generalize hQ:R++(al.take i).map (iV d)=Q at hst hl ⊢
  repeat (first|refine aU ?_|refine af ?_|refine az ?_|refine ax ?_|refine ak ?_|refine ae ?_|refine aB ?_|refine aF ?_|refine bn ?_|refine dK ?_|refine bP eH ?_)
  refine dV [0,2,8,10,11,12] ⟨[(0,.ref 0 [] 4 0 Q.length),(2,.fn 104 [.pref 1 [] 0]),(8,.pref 2 [] 0),(10,.sl al.length (recs aC al)),(11,.int .i64 al.length),(12,.int .i64 i)],[(0,.osl 4 Q.length (recs aC Q)),(1,.optr [.int .i64 d]),(2,.optr [.int .i64 (al.getD i default).f,.int .i64 (al.getD i default).i,.int .i64 (al.getD i default).o,.int .i64 (al.getD i default).t])],3⟩ rfl ?_
  refine Rl Q d (al.getD i default) (recs aC al) al.length i (by omega) hd (by omega) (by omega) ?_
  repeat (first|refine ah ?_|refine af ?_|refine bH ?_|refine ae ?_)
  refine dB [0,2,10,11,12] (i+1) hil (by omega) ?_
  rw [hst]
  simp only [List.length_append,List.length_cons,List.length_nil,Nat.zero_add]
  rfl
 ·have e0:al.take i=al:=List.take_of_length_le (by omega)
  rw [e0] at hl ⊢
  generalize R++al.map (iV d)=Q at hl ⊢
  repeat (first|refine ah ?_|refine af ?_|refine az ?_|refine bK (by rfl) ?_|refine au ?_|refine ak ?_|refine ae ?_)
  refine ay ?_
  rfl
end Go.Proofs.Ytlbdmpjnmfmnfaa
end
section
set_option linter.unusedSimpArgs false
set_option linter.unusedVariables false
namespace Go.HL
open Go.RowKit
section
variable {P:Program}
theorem Oo {ro:Oper} {x:HX} (h:bC P ro=.bi .cap [] [] [x]):∃y t e,ro.op=.call ⟨.builtin .cap,⟨[y]⟩,⟨[t]⟩⟩/\P.underlying t=some (.slice e)/\fH y=x:=by
 obtain ⟨dst,op,type,pos,after,guard⟩:=ro
 unfold bC at h
 repeat' split at h
 all_goals (try (cases h;done))
 all_goals (try (simp only [ui,mQ] at h;split at h<;>cases h;done))
 all_goals (try (split at h<;>cases h;done))
 all_goals (try (cases h))
 rename_i x1 c h1 x2 h2 x3 x4 y t h3 h4 x5 e h5
 obtain ⟨callee,⟨args⟩,⟨ts⟩⟩:=c
 simp only at h2 h3 h4
 subst h2 h3 h4
 exact ⟨y,t,e,h1,h5,rfl⟩
theorem JY {ro:Oper} {ns:List Nat} {zs:List HV} {x y:HX} (h:bC P ro=.bi .append ns zs [x,y]):∃s v t tn e k i z,ro.op=.call ⟨.builtin .append,⟨[s,v]⟩,⟨[t,tn]⟩⟩/\P.underlying t=some (.slice e)/\P.underlying tn=some (.int k)/\P.info? e=some i/\i.zero=some z/\z.cells.size=i.size/\0<i.size/\ns=[i.size,i.bytes]/\zs=DI P e (z.cells.toList.map ofVal1)/\fH s=x/\fH v=y:=by
 obtain ⟨dst,op,type,pos,after,guard⟩:=ro
 unfold bC at h
 repeat' split at h
 all_goals (try (cases h;done))
 all_goals (try (simp only [ui,mQ] at h;split at h<;>cases h;done))
 all_goals (try (split at h<;>cases h;done))
 all_goals (try (cases h))
 rename_i x1 c h1 x2 h2 x3 x4 sv v t tn h3 h4 x5 x6 e k h5 h6 x7 i h7 x8 z h8 h9
 obtain ⟨callee,⟨args⟩,⟨ts⟩⟩:=c
 simp only at h2 h3 h4
 subst h2 h3 h4
 exact ⟨_,_,_,_,_,_,_,_,h1,h5,h6,h7,h8,h9.1,h9.2,rfl,rfl,rfl,rfl⟩
theorem sD {E:Fr} {ro:Oper} {t:Nat} {op:HOp HX} (hd:(bJ P E.ok ro).dst=some t) (ho:(bJ P E.ok ro).op=op) (hb:op≠.bad):ro.dst=some t/\bC P ro=op/\E.ok t=true:=by
 have hdst:ro.dst=some t:=hd
 unfold bJ at ho
 by_cases h:(ro.dst.all fun d=>E.ok d)=true
 ·exact ⟨hdst,by simpa [h] using ho,by simpa [hdst] using h⟩
 ·simp [h] at ho;exact absurd ho.symm hb
theorem TW {s:St} {i t:Nat} {x:HX} {K:St->Prop} (hx:ev s.sl x=.nils) (hK:K (s.put (some t) (.int .i64 0))):nS P s i (some t) (.bi .cap [] [] [x]) K:=by
 intro E ro a w next Q hd ho hr hn
 obtain ⟨hdst,hop,hok⟩:=sD hd ho (by simp)
 obtain ⟨y,ty,e,hcall,hty,rfl⟩:=Oo hop
 obtain ⟨loc,fp,hr⟩:=hr
 have hv:=hr.val y
 rw [<- iM] at hv
 rw [hx] at hv
 have hy:=gq hv
 have hrun:(execOp a.eval ro).run P w=.ok (.value (.int .i64 0)) w:=by
  obtain ⟨dst,op,type,pos,after,guard⟩:=ro
  simp only at hcall
  subst hcall
  simp [execOp,resolve,invoke,builtin,Builtin.cap_,run_underlying hty,hy,goInt]
 unfold Oper.wp
 rw [hrun]
 show next (a.put ro.dst (.int .i64 0)) w
 rw [hdst]
 have hA:After E (s.nx+stride*i) s.S s.M [] (.int .i64 0) (.int .i64 0) a w:=hr.pure (Nat.le_refl _) (.int .nil)
 have h3:=SRel.done (s:=s) (d:=some t) hA (fun t' ht=>by cases ht;exact hok)
 exact hn (s.put (some t) (.int .i64 0)) _ _ (St.put_nx _ _ _) (h3.up (by unfold stride;omega)) hK
theorem LZ {ro:Oper} {sz:Nat} {x y:HX} (h:bC P ro=.slc sz x none (some y)):∃t v hv e i,ro.op=.slice t v none (some hv) none/\P.underlying t=some (.slice e)/\P.info? e=some i/\fH v=x/\fH hv=y:=by
 obtain ⟨dst,op,type,pos,after,guard⟩:=ro
 unfold bC at h
 repeat' split at h
 all_goals (try (cases h;done))
 all_goals (try (simp only [ui,mQ] at h;split at h<;>cases h;done))
 all_goals (try (split at h<;>cases h;done))
 rename_i x1 t x lo hi h1 x2 e h2 x3 i h3
 cases lo<;>cases hi<;>simp only [Option.map_none,Option.map_some,HOp.slc.injEq,reduceCtorEq,and_false,false_and,Option.some.injEq] at h
 obtain ⟨_,rfl,_,rfl⟩:=h
 exact ⟨_,_,_,_,_,h1,h2,h3,rfl,rfl⟩
theorem OH {s:St} {i t sz:Nat} {x y:HX} {K:St->Prop} (hx:ev s.sl x=.nils) (hy:ev s.sl y=.int .i64 0) (hK:K (s.put (some t) .nils)):nS P s i (some t) (.slc sz x none (some y)) K:=by
 intro E ro a w next Q hd ho hr hn
 obtain ⟨hdst,hop,hok⟩:=sD hd ho (by simp)
 obtain ⟨ty,v,hi,e,inf,hcall,hty,hinf,rfl,rfl⟩:=LZ hop
 obtain ⟨loc,fp,hr⟩:=hr
 have hv:=hr.val v
 have hw:=hr.val hi
 rw [<- iM] at hv hw
 rw [hx] at hv
 rw [hy] at hw
 have e1:=gq hv
 have e2:=of_int hw
 have hrun:(execOp a.eval ro).run P w=.ok (.value (.slice none 0 0)) w:=by
  obtain ⟨dst,op,type,pos,after,guard⟩:=ro
  simp only at hcall
  subst hcall
  have h1:(Instr.sliceAt ty (.slice none 0 0) none (some (.int .i64 0)) none).run P w=.ok (.slice none 0 0) w:=by
   simp [Instr.sliceAt,Instr.slice,run_underlying hty,Instr.sliceBounds,Instr.sliceBound,asIntOf,sizeOf,typeInfo,hinf,go_sem]
  simp only [execOp,e1,e2,Option.map_none,Option.map_some,Sem.run_bind,h1,Result.andThen_ok,Sem.run_pure]
 unfold Oper.wp
 rw [hrun]
 show next (a.put ro.dst (.slice none 0 0)) w
 rw [hdst]
 have hA:After E (s.nx+stride*i) s.S s.M [] .nils (.slice none 0 0) a w:=hr.pure (Nat.le_refl _) (.nils .nil)
 have h3:=SRel.done (s:=s) (d:=some t) hA (fun t' ht=>by cases ht;exact hok)
 exact hn (s.put (some t) .nils) _ _ (St.put_nx _ _ _) (h3.up (by unfold stride;omega)) hK
theorem yX (zc:Array Value) (hp:0<zc.size) (n:Nat):(Builtin.zeroCells zc n).toList=(List.replicate n zc.toList).flatten:=by
 induction n with
 | zero=>simp [Builtin.zeroCells]
 | succ n ih =>
  rw [List.replicate_succ',List.flatten_append,<- ih]
  apply List.ext_getElem?
  intro j
  by_cases h1:j<n*zc.size
  ·rw [List.getElem?_append_left (by simp [Builtin.zeroCells];exact h1)]
   have h2:j<(n+1)*zc.size:=by rw [Nat.succ_mul];omega
   simp [Builtin.zeroCells,h1,h2]
  ·rw [List.getElem?_append_right (by simp [Builtin.zeroCells];omega)]
   by_cases h2:j<(n+1)*zc.size
   ·have e:j % zc.size=j - n*zc.size:=by
     rw [Nat.succ_mul] at h2
     have:j=(j - n*zc.size)+n*zc.size:=by omega
     rw [this,Nat.add_mul_mod_self_right,Nat.mod_eq_of_lt (by omega)]
     omega
    have h3:j - n*zc.size<zc.size:=by rw [Nat.succ_mul] at h2;omega
    simp [Builtin.zeroCells,h2,e,h3]
   ·have h3:¬ j - n*zc.size<zc.size:=by rw [Nat.succ_mul] at h2;omega
    simp [Builtin.zeroCells,h2,h3]
theorem QC {F:Nat->Prop} {h:Hp} {cs:List HV} {rvs:List Value} (o:OW F h eG cs rvs []) (n:Nat):OW F h eG (List.replicate n cs).flatten (List.replicate n rvs).flatten []:=by
 induction n with
 | zero=>exact .nil
 | succ n ih =>
  simp only [List.replicate_succ,List.flatten_cons]
  simpa using o.append ih
theorem PP {s:St} {i t sz bytes n:Nat} {zs:List HV} {x y:HX} {K:St->Prop} (hx:ev s.sl x=.nils) (hy:ev s.sl y=.int .i64 n) (h0:0<n) (hb:n*bytes<=281474976710656) (hm:n<=maxLen)
  (hK:K ((s.upd [.put (s.nx+stride*i) (.osl sz n (List.replicate n zs).flatten)]).put (some t) (.ref (s.nx+stride*i) [] sz 0 n))):nS P s i (some t) (.bi .append [sz,bytes] zs [x,y]) K:=by
 intro E ro a w next Q hd ho hr hn
 obtain ⟨hdst,hop,hok⟩:=sD hd ho (by simp)
 obtain ⟨sv,v,ty,tn,e,k,inf,z,hcall,hty,htn,hi,hz,hzs,hpos,hns,rfl,rfl,rfl⟩:=JY hop
 obtain ⟨rfl,rfl⟩:sz=inf.size/\bytes=inf.bytes:=by simpa using hns
 obtain ⟨loc,fp,hr⟩:=hr
 have hv:=hr.val sv
 have hw:=hr.val v
 rw [<- iM] at hv hw
 rw [hx] at hv
 rw [hy] at hw
 have e1:=gq hv
 have e2:=of_int hw
 have hrun:(execOp a.eval ro).run P w=.ok (.value (.slice (some ⟨w.heap.size,0,none⟩) n (grownCap w n 0 e))) (w.drew.alloc (.cells (Builtin.zeroCells z.cells n++Builtin.zeroCells z.cells (grownCap w n 0 e - n)) e)):=by
  have h1:=Lib.run_append_nil_zeros (P:=P) w ty tn ro.type e inf z .i64 k hty htn hi hz n h0 hpos (by unfold maxLen at hm;omega) hb
  obtain ⟨dst,op,type,pos,after,guard⟩:=ro
  simp only at hcall h1
  subst hcall
  simp [execOp,resolve,invoke,builtin,e1,e2,h1]
 unfold Oper.wp
 rw [hrun]
 show next (a.put ro.dst _) _
 rw [hdst]
 let w':=w.drew.alloc (.cells (Builtin.zeroCells z.cells n++Builtin.zeroCells z.cells (grownCap w n 0 e - n)) e)
 have old:∀b,b<w.heap.size->w'.heap[b]?=w.heap[b]?:=fun b hb=>gm w.drew _ hb
 have hsz:w'.heap.size=w.heap.size+1:=dY w.drew _
 have hrow:OW (fP E fp w) w'.heap eG (List.replicate n (DI P e (z.cells.toList.map ofVal1))).flatten (Builtin.zeroCells z.cells n).toList []:=by
  rw [yX _ (by rw [hzs];exact hpos)]
  exact QC (EJ (OW.ofVals _)) n
 have hg:=sS (n:=n) (sz:=inf.size) (z:=z) (e:=e) hrow (by rw [hrow.length,Array.length_toList,size_zeroCells,hzs]) hzs (grownCap_ge w n 0 e) (grownCap_le_maxLen w n 0 e hm) (g:=w.heap.size) (by
  rw [Array.toArray_toList];exact iy w.drew _ rfl)
 obtain ⟨h1,h2,h3⟩:=hr.make (Nat.le_refl _) (T:=.osl inf.size n (List.replicate n (DI P e (z.cells.toList.map ofVal1))).flatten) (rT:=.slice (some ⟨w.heap.size,0,none⟩) n (grownCap w n 0 e)) (fT:=[w.heap.size]) (w':=w') (by omega) rfl rfl rfl old hg (by simp [hsz]) (by simp) (by simp)
 have hA:After E (s.nx+stride*i+1) s.S s.M [.put (s.nx+stride*i) (.osl inf.size n (List.replicate n (DI P e (z.cells.toList.map ofVal1))).flatten)] (.ref (s.nx+stride*i) [] inf.size 0 n) (.slice (some ⟨w.heap.size,0,none⟩) n (grownCap w n 0 e)) a w' :=
  ⟨_,_,h1,dS rfl (vN hg (by simp [Lk.upd]) (by simp))⟩
 have h4:=SRel.done (s:=s) (d:=some t) hA (fun t' ht=>by cases ht;exact hok)
 exact hn _ _ _ (by rw [St.put_nx,St.upd_nx]) (h4.up (by unfold stride;omega)) hK
section
variable {C:CallSpec} {all r:List aH} {i t:Nat} {k:List HI} {rs:List Nat} {K:HV->Prop} {sl st:List (Nat×HV)} {nx:Nat} {x y:HX}
theorem NP [ok:Ok (HS P) k] (hx:ev sl x=.nils) (h:G P (HS P) all r (i+1) k rs K ((t,.int .i64 0)::sl) st nx):G P (HS P) all (⟨some t,.bi .cap [] [] [x],none⟩::r) i k rs K sl st nx:=by
 refine nT (TW (s:=⟨sl,st,nx⟩) hx ?_)
 refine jE ok.mono ok.plain ?_ h
 refine ⟨?_,rfl,rfl⟩
 funext j
 exact wW j t (.int .i64 0) sl
theorem Xv [ok:Ok (HS P) k] {sz:Nat} (hx:ev sl x=.nils) (hy:ev sl y=.int .i64 0) (h:G P (HS P) all r (i+1) k rs K ((t,.nils)::sl) st nx):G P (HS P) all (⟨some t,.slc sz x none (some y),none⟩::r) i k rs K sl st nx:=by
 refine nT (OH (s:=⟨sl,st,nx⟩) hx hy ?_)
 refine jE ok.mono ok.plain ?_ h
 refine ⟨?_,rfl,rfl⟩
 funext j
 exact wW j t .nils sl
theorem U5 [ok:Ok (HS P) k] {sz bytes n fr:Nat} {zs cs:List HV} (hx:ev sl x=.nils) (hy:ev sl y=.int .i64 n) (h0:0<n) (hb:n*bytes<=281474976710656) (hm:n<=maxLen) (hf:nx+stride*i=fr) (hc:(List.replicate n zs).flatten=cs)
  (h:G P (HS P) all r (i+1) k rs K ((t,.ref fr [] sz 0 n)::sl) ((fr,.osl sz n cs)::st) nx):G P (HS P) all (⟨some t,.bi .append [sz,bytes] zs [x,y],none⟩::r) i k rs K sl st nx:=by
 subst hf hc
 refine nT (PP (s:=⟨sl,st,nx⟩) hx hy h0 hb hm ?_)
 refine jE ok.mono ok.plain (kH (d:=some t) (v:=.ref (nx+stride*i) [] sz 0 n) (us:=[.put (nx+stride*i) (.osl sz n (List.replicate n zs).flatten)]) ?_) h
 rfl
end
end
end Go.HL
end
