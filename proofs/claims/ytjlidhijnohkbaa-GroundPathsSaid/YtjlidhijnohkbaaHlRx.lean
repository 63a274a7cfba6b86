import Derived.Test.YtjlidhijnohkbaaHl5
set_option linter.unusedSimpArgs false
set_option linter.unusedVariables false
namespace Go.HL
open Go.RowKit
def Tu (n m:Nat) (K:HV->List HV->Prop):HV->Prop:=fun r=>∃ts,r=fJ ts/\ts.length=n+m/\(∀o∈ts.drop n,∃sz k cs,o=HV.osl sz k cs)/\K (fJ (ts.take n)) (ts.drop n)
theorem HTI.enterR {P:Program} (hm:P.follows .mixedOrders=true) {f:FuncId} {fn:Func} {c:Code} {rs:List Nat} (hf:P.funcs[f]?=some fn) (hb:fn.body=some c) (hname:(fn.name == "runtime.NumGoroutine")=false) (hrs:tmpsOf fn.results.toList=some rs)
  {args:List HV} (hlen:args.length<=fn.ntmps) {L:Nat} {io:List Nat} (hioL:∀j∈io,j<L) {K:HV->List HV->Prop} (s0:St) (hw0:Weak { ((⟨aB 0 (aH 0 args).1,[],0⟩:St).upd (aH 0 args).2.1) with nx:=(aH 0 args).2.2 } s0) (h:hcode P (eU P (LJ L fn.ntmps) c) (finish (rs++io) (Tu rs.length io.length K)) s0):HTI P f args io K:=by
 refine ⟨⟨fn,hf,by simp [hb],hname⟩,?_⟩
 intro w rargs F fa hF hargs hnd hFa
 refine calls_of_wp hf hb ?_
 have hl:=hargs.length
 have hal:=hargs.lt
 let E:Fr:=⟨w.heap.size,F,w,LJ L fn.ntmps,fun b=>b∈fa,fun t=>rargs.getD t undef⟩
 have u:=hargs.unpack (fun _ _ h=>h) 0 hnd
 obtain ⟨Tt,l,p,a1,b1,c1,d1,e1,g1⟩:=u
 have hlen2:(aH 0 args).1.length=rargs.length:=by
  have:=(g1 (aH 0 args).2.2 Tt l (aP _) (fun id _ _=>⟨rfl,rfl⟩)).length
  exact this
 have hr:SRel E (aH 0 args).2.2 { ((⟨aB 0 (aH 0 args).1,[],0⟩:St).upd (aH 0 args).2.1) with nx:=(aH 0 args).2.2 } { tmps:=rargs.toArray++Array.replicate (fn.ntmps - rargs.toArray.size) undef,defers:=[] } w:=by
  generalize (aH 0 args)=U at *
  have hM:∀id,((⟨aB 0 U.1,[],0⟩:St).upd U.2.1).M id=if id<U.2.2 then Tt id else .dead:=fun id=>by
   rw [St.upd_M,b1]
   simp only [gX,true_and]
   rfl
  have hS:∀t,((⟨aB 0 U.1,[],0⟩:St).upd U.2.1).S t=U.1.getD t .dead:=fun t=>by
   rw [St.upd_S,c1]
   show au t (aB 0 U.1)=_
   rw [lg];simp
  have fz:∀b,F b->dX E (fun id=>if id<U.2.2 then p id else []) w b:=fun b hb=>⟨hF b hb,fun _=>.inl hb,fun id=>by
   by_cases h:id<U.2.2
   ·simp only [h,if_true];exact fun h2=>hFa b ((d1 id (gX _) h).2.2.2 b h2) hb
   ·simp only [h,if_false];simp⟩
  refine ⟨fun id=>if id<U.2.2 then l id else undef,fun id=>if id<U.2.2 then p id else [],⟨BelowG.refl _ _ _,aP _,?_,fun id h=>?_,fun id h=>?_,fun id h=>?_,fun id=>?_,fun i j hij b hb hb'=>?_,fun id b hb=>?_,fun t=>?_,rfl⟩⟩
  ·exact vT rargs L fn.ntmps (by omega)
  ·show OW _ _ _ [((⟨aB 0 U.1,[],0⟩:St).upd U.2.1).M id] _ _
   have h':((⟨aB 0 U.1,[],0⟩:St).upd U.2.1).M id≠.dead:=h
   rw [hM] at h' ⊢
   by_cases h2:id<U.2.2
   ·simp only [h2,if_true]
    exact (d1 id (gX _) h2).2.1.stable (fun _ _=>rfl) (fun b hb=>⟨fz b hb,rfl⟩) (fun _ _ h=>h)
   ·rw [if_neg h2] at h';exact absurd rfl h'
  ·have h':((⟨aB 0 U.1,[],0⟩:St).upd U.2.1).M id=.dead:=h
   rw [hM] at h'
   by_cases h2:id<U.2.2
   ·rw [if_pos h2] at h';exact absurd h' (d1 id (gX _) h2).1
   ·simp only [h2,if_false]
  ·show ((⟨aB 0 U.1,[],0⟩:St).upd U.2.1).M id=.dead
   rw [hM,if_neg (by omega)]
  ·by_cases h2:id<U.2.2
   ·simp only [h2,if_true];exact (d1 id (gX _) h2).2.2.1
   ·simp only [h2,if_false];exact .nil
  ·by_cases h1:i<U.2.2
   ·by_cases h2:j<U.2.2
    ·simp only [h1,h2,if_true] at hb hb'
     exact e1 i j (gX _) h1 (gX _) h2 hij b hb hb'
    ·simp only [h2,if_false] at hb';cases hb'
   ·simp only [h1,if_false] at hb;cases hb
  ·by_cases h2:id<U.2.2
   ·simp only [h2,if_true] at hb
    exact .inr ((d1 id (gX _) h2).2.2.2 b hb)
   ·simp only [h2,if_false] at hb;cases hb
  ·show OW _ _ _ [((⟨aB 0 U.1,[],0⟩:St).upd U.2.1).S t] _ _
   rw [hS]
   have o2:=g1 U.2.2 (((⟨aB 0 U.1,[],0⟩:St).upd U.2.1).M) (fun id=>if id<U.2.2 then l id else undef) (aP _) (fun id _ h2=>⟨by rw [hM,if_pos h2],by simp [h2]⟩)
   by_cases ht:t<U.1.length
   ·obtain ⟨rv,f1,f2,f3,h1,h2,h3,_⟩:=o2.at t ht
    have h4:f2=[]:=by simp at h2;exact h2.2.1
    subst h4
    have h5:(rargs.toArray++Array.replicate (fn.ntmps - rargs.toArray.size) undef).getD t undef=rv:=by
     have:t<rargs.length:=by omega
     rw [iw,IL (by simpa using this)]
     simp [h1]
    simp only [h5]
    exact h3.stable (by simp) (fun b hb=>⟨fz b hb,rfl⟩) (fun _ _ h=>h)
   ·have:U.1.getD t .dead=.dead:=by simp [List.getD,jb (vX ht)]
    rw [this];exact .dead .nil
 refine rX (E:=E) hm c (finish (rs++io) (Tu rs.length io.length K)) _ s0 _ w (hw0 _ _ _ hr) h ?_
 intro e s' a' w' hr' hq
 obtain ⟨loc,fp,hr1⟩:=hr'
 have fin:(ak s'.M ((rs++io).map fun r=>au r s'.sl)).2.2/\Tu rs.length io.length K (fJ (ak s'.M ((rs++io).map fun r=>au r s'.sl)).1)->a'.defers=[]/\∃v,(results fn a'.tmps).run P w'=.ok v w' /\
   ∃rv res outs fs,Ending.returned v=.returned rv/\K res outs/\OW (fun b=>F b\/((b<w.heap.size->b∈fa)/\b<w'.heap.size/\b ∉ fs)) w'.heap dA (res::outs) (rv::io.map fun j=>rargs.getD j undef) fs/\fs.Nodup/\(∀b∈fs,w.heap.size<=b\/b∈fa)/\BelowG w.heap.size (fun b=>b∈fa) w w':=by
  rintro ⟨hvc,ts,hts,htl,hop,hK⟩
  have hv:OW (dX E fp w') w'.heap (RefR s'.nx s'.M loc w'.heap) ((rs++io).map fun r=>au r s'.sl) ((rs++io).map fun r=>a'.tmps.getD r undef) []:=by
   have:=hr1.vals ((rs++io).map fun r=>Operand.tmp r)
   rw [iG,iG] at this
   exact this
  obtain ⟨ff,ids,T⟩:=iJ hr1 hv rfl rfl s'.M (fun _=>.inl rfl) hvc
  have hown:=T.own
  have hll:=hown.length
  rw [fK,kL] at hll
  have hts2:=BG (by rw [hll,htl]) hts
  rw [hts2] at hown
  have o2:OW (fun b=>F b\/((b<w.heap.size->b∈fa)/\b<w'.heap.size/\b ∉ ff)) w'.heap dA ts ((rs++io).map fun r=>a'.tmps.getD r undef) ff:=by
   refine hown.stable (fun _ _=>rfl) (fun b hb=>⟨?_,rfl⟩) (fun _ _ h=>h)
   have hnf:b ∉ ff:=fun h=>by
    obtain ⟨id,_,h2⟩:=T.from_ b h
    exact hb.2.2 id h2
   by_cases hlt:b<w.heap.size
   ·rcases hb.2.1 hlt with h|h
    ·exact .inl h
    ·exact .inr ⟨fun _=>h,hb.1,hnf⟩
   ·exact .inr ⟨fun h=>absurd h hlt,hb.1,hnf⟩
  rw [<- yc rs.length ts] at o2
  obtain ⟨ru,rw',f1,f2,e1',e2',hl1,oa,ob⟩:=o2.splitAt
  rw [List.map_append] at e1'
  have hl3:ru.length=(rs.map fun r=>a'.tmps.getD r undef).length:=by rw [hl1,gB,fK];omega
  obtain ⟨rfl,rfl⟩:=List.append_inj e1' hl3.symm
  have hsame:(io.map fun r=>a'.tmps.getD r undef)=io.map fun j=>rargs.getD j undef:=by
   apply BJ
   intro j hj
   obtain ⟨k,hk,hkj⟩:=Gg hj
   have hkd:k<(ts.drop rs.length).length:=by rw [lT];omega
   obtain ⟨rv,g1,g2,g3,a1',a2',a3',_⟩:=ob.at k hkd
   obtain ⟨sz0,n0,cs,hcs⟩:=hop _ (Bq hkd)
   rw [dW,dS hkd,gV,hcs] at a3'
   simp only [iT,dS hk,iq,bY] at a1'
   rw [hkj] at a1'
   rw [<- a1'] at a3'
   rcases hr1.size.kept j (by simp only [E,LJ,Bool.and_eq_false_iff,decide_eq_false_iff_not];have:=hioL j hj;omega) with h|h
   ·exact h
   ·rw [h] at a3'
    generalize hu:undef=u at a3'
    cases a3'
    all_goals (first|(cases hu;done)|(rename_i g _;exact g.elim))
  rw [hsame] at ob
  refine ⟨hr1.defers,_,qW hrs a'.tmps w',_,fJ (ts.take rs.length),ts.drop rs.length,ff,rfl,hK,?_,T.nodup,?_,hr1.below⟩
  ·rw [e2']
   rw [e2'] at oa ob
   have:=oa.tupOf_
   exact this.cons1 ob
  ·intro b hb
   obtain ⟨id,_,h2⟩:=T.from_ b hb
   exact hr1.fresh id b h2
 cases e with
 | normal=>exact fin hq
 | ret=>exact fin hq
 | exit i=>exact hq.elim
theorem HTI.ofR {P:Program} (hm:P.follows .mixedOrders=true) {f:FuncId} {c:HCode} {rs:List Nat} {T:Nat} (hf:bf P f=some (c,rs,T)) {args:List HV} (hlen:args.length<=T) (L:Nat) (io:List Nat) (hlow:c.low L=true) (hio:(io.all fun j=>decide (j<L))=true) {K:HV->List HV->Prop} (s0:St) (h0:{ ((⟨aB 0 (aH 0 args).1,[],0⟩:St).upd (aH 0 args).2.1) with nx:=(aH 0 args).2.2 }=s0) (h:hx P [.c c] (finish (rs++io) (Tu rs.length io.length K)) s0):HTI P f args io K:=by
 unfold bf at hf
 cases h1:P.funcs[f]? with
 | none=>simp [h1] at hf
 | some fn =>
  rw [h1] at hf
  simp only at hf
  cases h2:fn.body with
  | none=>simp [h2] at hf
  | some cd =>
   cases h3:tmpsOf fn.results.toList with
   | none=>simp [h2,h3] at hf
   | some rs' =>
    simp only [h2,h3] at hf
    split at hf
    ·cases hf
    ·rename_i hname
     simp only [bY,kD] at hf
     obtain ⟨rfl,rfl,rfl⟩:=hf
     unfold hx at h
     obtain ⟨s',hw,h4⟩:=h
     subst h0
     refine HTI.enterR hm h1 h2 (by simpa using hname) h3 hlen (L:=L) (by simpa [zl014] using hio) s' hw ?_
     rw [Ai cd hlow]
     exact h4
end Go.HL
