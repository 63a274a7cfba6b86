import Derived.Test.YtjlidhijnohkbaaHl5
set_option linter.unusedSimpArgs false
set_option linter.unusedVariables false
namespace Go.HL
open Go.RowKit
section
variable {P:Program} {E:Fr} {N:Nat} {sl st:Lk} {loc:Nat->Value} {fp:Nat->List Nat} {a:Act} {w:World}
theorem zt (hr:Rel E N sl st loc fp a w) {id sz n:Nat}:∀ {vs:List HV} {rvs:List Value},OW (dX E fp w) w.heap (RefR N st loc w.heap) vs rvs []->∀ (L:Lk),(∀id,L id=st id\/L id=.dead)->(ak L vs).2.2->∀j:Nat,vs[j]?=some (HV.ref id [] sz 0 n) ->
  (∃sz' cs,st id=.osl sz' n cs)/\Lk.upd L (ak L vs).2.1 id=.dead:=by
 intro vs
 induction vs with
 | nil=>intro rvs _ L _ _ j hj;simp at hj
 | cons v vs ih =>
  intro rvs o L hL hs j hj
  cases rvs with
  | nil=>exact absurd o.length (by simp)
  | cons rv rvs =>
   obtain ⟨f1,f2,hf,o1,o2⟩:=o.split1
   obtain ⟨rfl,rfl⟩:f1=[]/\f2=[]:=by simpa using hf.symm
   have hs0:=hs
   simp only [ak] at hs ⊢
   rw [bQ]
   have s1:(ak L [v]).2.2:=by simp only [ak];exact ⟨hs.1,trivial⟩
   obtain ⟨ff,ids,T⟩:=iJ hr o1 rfl rfl L hL s1
   have e1:(ak L [v]).2.1=(takeD L v).2.1:=by simp [ak]
   rw [e1] at T
   have hL2:=zg hL T.upd
   obtain ⟨ff2,ids2,T2⟩:=iJ hr o2 rfl rfl _ hL2 hs.2
   cases j with
   | zero =>
    simp only [List.getElem?_cons_zero,bY] at hj
    subst hj
    have h1:=hs.1
    simp only [takeD,takeC] at h1
    cases hLi:L id<;>rw [hLi] at h1<;>simp only at h1<;>(first|exact h1.elim|skip)
    rename_i sz' m cs
    obtain ⟨_,rfl⟩:=h1
    refine ⟨⟨sz',cs,?_⟩,?_⟩
    ·rcases hL id with h|h
     ·rw [<- h,hLi]
     ·rw [hLi] at h;cases h
    ·rw [T2.upd]
     split
     ·rfl
     ·simp [takeD,takeC,hLi,Lk.upd]
   | succ j =>
    simp only [List.getElem?_cons_succ] at hj
    exact ih o2 _ hL2 hs.2 j hj
def Ea (v:HV) (id:Nat):Prop:=v=.pref id [] 0\/∃sz n,v=.ref id [] sz 0 n/\0<n/\0<sz
theorem EU (hr:Rel E N sl st loc fp a w) {fr:Nat} (hfr:N<=fr) {f:FuncId} {vs:List HV} {rvs:List Value} (hv:OW (dX E fp w) w.heap (RefR N st loc w.heap) vs rvs []) (hside:(ak st vs).2.2) {io ids:List Nat}
  (hlio:io.length=ids.length) (hat:∀k,k<ids.length->∃v,vs[io.getD k 0]?=some v/\Ea v (ids.getD k 0)) (hids:ids.Nodup) {K:HV->List HV->Prop} (hC:HTI P f (ak st vs).1 io K)
  (hrow:∀r o,K r o->∀k,k<ids.length->∀sz n cs,st (ids.getD k 0)=.osl sz n cs->∃cs',o.getD k .dead=.osl sz n cs') :
  Calls P f rvs.toArray w (fun e w'=>∃rv res outs,e=.returned rv/\K res outs/\outs.length=ids.length/\fr<=(unpack fr res).2.2/\After E (unpack fr res).2.2 sl st ((ak st vs).2.1++kills ids++iF ids outs++(unpack fr res).2.1) (unpack fr res).1 rv a w'):=by
 obtain ⟨ff,tids,T⟩:=iJ hr hv rfl rfl st (fun _=>.inl rfl) hside
 have hputs:=jg st vs
 have hpre:∀k,k<ids.length->((∃cs,st (ids.getD k 0)=.optr cs)\/∃sz n cs,st (ids.getD k 0)=.osl sz n cs)/\Lk.upd st (ak st vs).2.1 (ids.getD k 0)=.dead:=fun k hk=>by
  obtain ⟨v,h1,h2⟩:=hat k hk
  rcases h2 with rfl|⟨sz,n,rfl,_,_⟩
  ·obtain ⟨_,g1,g2⟩:=rZ hr hv st (fun _=>.inl rfl) hside (io.getD k 0) h1
   exact ⟨.inl g1,g2⟩
  ·obtain ⟨⟨sz',cs,g1⟩,g2⟩:=zt hr hv st (fun _=>.inl rfl) hside (io.getD k 0) h1
   exact ⟨.inr ⟨_,_,_,g1⟩,g2⟩
 generalize (ak st vs).1=ts at T hC
 generalize (ak st vs).2.1=ut at T hputs hpre
 have hin:∀k,k<ids.length->ids.getD k 0∈tids:=fun k hk=>by
  obtain ⟨h1,h2⟩:=hpre k hk
  rw [T.upd] at h2
  split at h2
  ·assumption
  ·rcases h1 with ⟨cs,h1⟩|⟨_,_,cs,h1⟩<;>(rw [h1] at h2;cases h2)
 have hloc:∀k,k<ids.length->rvs.getD (io.getD k 0) undef=loc (ids.getD k 0):=fun k hk=>by
  obtain ⟨hp1,_⟩:=hpre k hk
  obtain ⟨v,hatk,hl⟩:=hat k hk
  obtain ⟨h3,h4⟩:=zl030.1 hatk
  obtain ⟨rv,f1,f2,f3,e1,e2,o2,_⟩:=hv.at _ h3
  have h5:f2=[]:=by simp at e2;exact e2.2.1
  subst h5
  rw [dW,dS h3,gV,h4] at o2
  have hnd:st (ids.getD k 0)≠.dead:=by rcases hp1 with ⟨cs,h1⟩|⟨_,_,cs,h1⟩<;>rw [h1]<;>simp
  have ht:=hr.tree (ids.getD k 0) hnd
  rw [dW,e1,gV]
  rcases hl with rfl|⟨sz,n,rfl,hn0,hs0⟩
  ·have hR:=nU o2
   simp only [RefR] at hR
   rcases hp1 with ⟨cs,h1⟩|⟨sz,n,cs,h1⟩
   ·obtain ⟨rvn,g,o,b1,b2,b3⟩:=hR.2.2.2 (by rw [h1];trivial)
    simp only [bW,bY] at b1
    subst b1
    rw [h1] at ht
    generalize loc (ids.getD k 0)=L at ht b2 ⊢
    generalize fp (ids.getD k 0)=fL at ht
    rw [b3]
    cases ht with
    | leaf _ _ _ _ _ _ g _=>exact g.elim
    | optr _ _ _ =>
     simp only [je,bY,kD] at b2
     obtain ⟨rfl,rfl⟩:=b2
     rfl
   ·obtain ⟨_,⟨cs',h6⟩,_⟩:=rZ hr hv st (fun _=>.inl rfl) hside (io.getD k 0) hatk
    rw [h1] at h6;cases h6
  ·obtain ⟨⟨sz',cs,h1⟩,_⟩:=zt hr hv st (fun _=>.inl rfl) hside (io.getD k 0) hatk
   have hR:=kS o2
   simp only [RefR] at hR
   obtain ⟨rfl,a,cap,b1,b2⟩:=hR.2.2.2.2 sz' n cs (by rw [h1];rfl)
   simp only [bW,bY] at b1
   rw [b1]
   rcases b2 with ⟨h0,_⟩|⟨g,o,c,rfl,rfl,b3,_,_⟩
   ·omega
   ·obtain rfl:c=cap:=Nat.eq_of_mul_eq_mul_right hs0 (by omega)
    rfl
 have idN:∀id∈tids,id<N:=fun id hid=>by
  rcases dL id N with h|h
  ·exact h
  ·exact absurd (hr.new id h) (T.alive id hid).2
 refine (hC.2 w rvs (dX E fp w) ff (fun b hb=>hb.1) T.own T.nodup (fun b hb h=>by obtain ⟨id,_,h2⟩:=T.from_ b hb;exact h.2.2 id h2)).mono ?_
 rintro e w' ⟨rv,res,outs,fs,rfl,hK,ho,hnd,hfs,hb⟩
 have hlo:outs.length=ids.length:=by have:=ho.length;simp at this;omega
 refine ⟨rv,res,outs,rfl,hK,hlo,?_⟩
 have hlt:=ho.lt
 obtain ⟨f0,fo,rfl,ho0,hoo⟩:=ho.split1
 have hnd0:=hnd
 rw [zl007] at hnd0
 obtain ⟨qf,hq1,hq2⟩:=hoo.each hnd0.2.1
 have u:=ho0.unpack (fun _ _ h=>h) fr hnd0.1
 obtain ⟨Tt,l,p,a1,b1,c1,d1,e1,g1⟩:=u
 simp only [aH,List.append_nil] at a1 b1 c1 d1 e1 g1
 refine ⟨a1,?_⟩
 obtain ⟨idx,hidx⟩:∃idx:Nat->Nat,∀k,k<ids.length->idx (ids.getD k 0)=k:=⟨fun id=>ids.idxOf id,fun k hk=>by
  rw [dW,dS hk,gV]
  exact hids.idxOf_getElem k hk⟩
 have hidx2:∀id∈ids,idx id<ids.length/\ids.getD (idx id) 0=id:=fun id hid=>by
  obtain ⟨k,hk,e⟩:=Gg hid
  have e2:ids.getD k 0=id:=by rw [dW,dS hk,gV,e]
  have:=hidx k hk
  rw [e2] at this
  rw [this];exact ⟨hk,e2⟩
 obtain ⟨B1,B2⟩:=CZ (Lk.upd (Lk.upd st ut) (kills ids)) hlo hids
 have hidN:∀id∈ids,id<N/\id∈tids:=fun id hid=>by
  obtain ⟨h1,h2⟩:=hidx2 id hid
  have:=hin _ h1
  rw [h2] at this
  exact ⟨idN id this,this⟩
 have upd:∀id,Lk.upd st (ut++kills ids++iF ids outs++(unpack fr res).2.1) id=if fr<=id/\id<(unpack fr res).2.2 then Tt id else if id∈ids then outs.getD (idx id) .dead else if id∈tids then .dead else st id:=fun id=>by
  rw [bQ,b1,bQ,bQ]
  split
  ·rfl
  ·split
   ·rename_i h
    obtain ⟨h1,h2⟩:=hidx2 id h
    have:=B1 _ h1
    rw [h2] at this
    exact this
   ·rename_i h
    rw [B2 id h,Dn,T.upd]
 have slE:qF sl (ut++kills ids++iF ids outs++(unpack fr res).2.1)=qF sl (kills ids):=by
  rw [dG,dG,dG,iU hputs,c1]
  exact iU (by intro x hx;simp only [iF,zl023] at hx;obtain ⟨y,_,rfl⟩:=hx;exact ⟨_,_,rfl⟩)
 have hkill:=FN (ids:=ids) (R:=RefR N st loc w.heap) (sl:=sl) (tm:=a.tmps) hr.slots
 have hr2:Rel E N (qF sl (kills ids)) st loc fp a w:=⟨hr.below,hr.base,hr.size,hr.tree,hr.gone,hr.new,hr.nodup,hr.apart,hr.fresh,fun t=>(hkill t).stable (fun _ _=>rfl) (fun _ h=>⟨h,rfl⟩) fun _ _ h=>h.1,hr.defers⟩
 have frozen:∀ (fp':Nat->List Nat),(∀id,fp' id=if fr<=id/\id<(unpack fr res).2.2 then p id else if id∈ids then qf (idx id) else if id∈tids then [] else fp id)->∀b,((b<w.heap.size->b∈ff)/\b<w'.heap.size/\b ∉ f0++fo)->dX E fp' w' b:=by
  intro fp' hfp' b ⟨h1,h2,h3⟩
  rw [zl001,not_or] at h3
  refine ⟨h2,fun h=>?_,fun id=>?_⟩
  ·have hbs:b<w.heap.size:=by have:=hr.base;omega
   obtain ⟨j,_,hj⟩:=T.from_ b (h1 hbs)
   rcases hr.fresh j b hj with h4|h4
   ·omega
   ·exact .inr h4
  ·rw [hfp']
   split
   ·rename_i h;exact fun hb2=>h3.1 ((d1 id h.1 h.2).2.2.2 b hb2)
   ·split
    ·rename_i h
     exact fun hb2=>h3.2 ((hq1 _ (by rw [hlo];exact (hidx2 id h).1)).2.2 b hb2)
    ·split
     ·simp
     ·rename_i hn
      intro hb2
      have hbs:=hr.lt id b hb2
      obtain ⟨j,hj1,hj2⟩:=T.from_ b (h1 hbs)
      exact hr.apart id j (fun e=>hn (e▸hj1)) b hb2 hj2
 have main:=hr2.step (fun v=>∀id∈ids,∀p,(∃sz o n,v=.ref id p sz o n)\/(∃o,v=.pref id p o)\/v=.mref id p->¬ 0<p.length) hkill (fun i=>i∈tids\/(fr<=i/\i<(unpack fr res).2.2)) (N':=(unpack fr res).2.2) (st':=Lk.upd st (ut++kills ids++iF ids outs++(unpack fr res).2.1)) (loc':=fun i=>if fr<=i/\i<(unpack fr res).2.2 then l i else loc i) (fp':=fun i=>if fr<=i/\i<(unpack fr res).2.2 then p i else if i∈ids then qf (idx i) else if i∈tids then [] else fp i) (w':=w') (by omega) hb.size hb.os hb.tape hb.output (fun b hb' hn=>hb.block b hb' fun hbf=>by
  obtain ⟨id,h1,h2⟩:=T.from_ b hbf
  exact hn id (.inl h1) h2) ?_ ?_ ?_ ?_ ?_ ?_ ?_ ?_
 ·refine ⟨_,_,by rw [slE];exact main.1,?_⟩
  have:=g1 (unpack fr res).2.2 (Lk.upd st (ut++kills ids++iF ids outs++(unpack fr res).2.1)) (fun i=>if fr<=i/\i<(unpack fr res).2.2 then l i else loc i) (aP _) (fun id h1 h2=>⟨by rw [upd,if_pos ⟨h1,h2⟩],by simp [h1,h2]⟩)
  refine this.stable (by simp) (fun b hb'=>⟨?_,rfl⟩) (fun _ _ h=>h)
  rcases hb' with h|h
  ·exact (main.2.1 b h).1
  ·exact frozen _ (fun _=>rfl) b h
 ·intro id hid
  rw [not_or] at hid
  have hni:id ∉ ids:=fun h=>hid.1 (hidN id h).2
  exact ⟨by rw [upd,if_neg hid.2,if_neg hni,if_neg hid.1],by simp only [hid.2,if_false],by simp only [hid.1,hid.2,hni,if_false]⟩
 ·intro hfz id hid hd
  rw [upd] at hd
  by_cases hn:fr<=id/\id<(unpack fr res).2.2
  ·obtain ⟨h1,h2,h3,h4⟩:=d1 id hn.1 hn.2
   rw [upd,if_pos hn]
   simp only [hn,and_self,if_true]
   refine h2.stable (fun _ _=>rfl) (fun b hb'=>⟨?_,rfl⟩) (fun _ _ h=>h)
   rcases hb' with h|h
   ·exact (hfz b h).1
   ·exact frozen _ (fun _=>rfl) b h
  ·by_cases hi:id∈ids
   ·obtain ⟨h1,h2⟩:=hidx2 id hi
    obtain ⟨o1,o2,o3⟩:=hq1 (idx id) (by rw [hlo];exact h1)
    rw [upd,if_neg hn,if_pos hi]
    simp only [hn,hi,if_false,if_true]
    have e3:(io.map fun j=>rvs.getD j undef).getD (idx id) undef=loc id:=by
     have:=hloc _ h1
     rw [h2] at this
     rw [<- this]
     simp [dW,dS (show idx id<io.length by omega)]
    rw [e3] at o1
    refine o1.stable (fun _ _=>rfl) (fun b hb'=>⟨?_,rfl⟩) (fun _ _ h=>h)
    rcases hb' with h|h
    ·exact (hfz b h).1
    ·exact frozen _ (fun _=>rfl) b h
   ·rw [if_neg hn,if_neg hi,if_pos (hid.resolve_right hn)] at hd
    exact absurd rfl hd
 ·intro id hid hd
  rw [upd] at hd
  by_cases hn:fr<=id/\id<(unpack fr res).2.2
  ·rw [if_pos hn] at hd
   exact absurd hd (d1 id hn.1 hn.2).1
  ·by_cases hi:id∈ids
   ·rw [if_neg hn,if_pos hi] at hd
    obtain ⟨h1,h2⟩:=hidx2 id hi
    obtain ⟨o1,o2,o3⟩:=hq1 (idx id) (by rw [hlo];exact h1)
    rw [hd] at o1
    simp only [hn,hi,if_false,if_true]
    generalize qf (idx id)=q at o1
    cases o1 with
    | leaf _ _ _ _ _ _ g _=>exact g.elim
    | dead o=>cases o;rfl
   ·simp only [hn,hi,if_false,hid.resolve_right hn,if_true]
 ·intro id hid hge
  rcases hid with h|h
  ·have:=idN id h;omega
  ·omega
 ·intro id hid b hb'
  have old:b∈f0++fo->(w.heap.size<=b/\b<w'.heap.size)\/∃j,(j∈tids\/(fr<=j/\j<(unpack fr res).2.2))/\b∈fp j:=fun h1=>by
   rcases hfs b h1 with h|h
   ·exact .inl ⟨h,hlt b h1⟩
   ·obtain ⟨j,hj1,hj2⟩:=T.from_ b h
    exact .inr ⟨j,.inl hj1,hj2⟩
  by_cases hn:fr<=id/\id<(unpack fr res).2.2
  ·simp only [hn,and_self,if_true] at hb'
   exact old (zl001.2 (.inl ((d1 id hn.1 hn.2).2.2.2 b hb')))
  ·by_cases hi:id∈ids
   ·simp only [hn,hi,if_false,if_true] at hb'
    exact old (zl001.2 (.inr ((hq1 _ (by rw [hlo];exact (hidx2 id hi).1)).2.2 b hb')))
   ·simp only [hn,hi,if_false,hid.resolve_right hn,if_true] at hb'
    cases hb'
 ·intro id hid
  by_cases hn:fr<=id/\id<(unpack fr res).2.2
  ·simp only [hn,and_self,if_true]
   exact (d1 id hn.1 hn.2).2.2.1
  ·by_cases hi:id∈ids
   ·simp only [hn,hi,if_false,if_true]
    exact (hq1 _ (by rw [hlo];exact (hidx2 id hi).1)).2.1
   ·simp only [hn,hi,if_false,hid.resolve_right hn,if_true]
    exact .nil
 ·intro i j hi hj hij b hb' hb2
  have cross:∀i j,fr<=i/\i<(unpack fr res).2.2->j∈ids->b∈p i->b∈qf (idx j)->False:=fun i j hn hm h1 h2 =>
   hnd0.2.2 b ((d1 i hn.1 hn.2).2.2.2 b h1) b ((hq1 _ (by rw [hlo];exact (hidx2 j hm).1)).2.2 b h2) rfl
  by_cases hn:fr<=i/\i<(unpack fr res).2.2
  ·simp only [hn,and_self,if_true] at hb'
   by_cases hm:fr<=j/\j<(unpack fr res).2.2
   ·simp only [hm,and_self,if_true] at hb2
    exact e1 i j hn.1 hn.2 hm.1 hm.2 hij b hb' hb2
   ·by_cases hmi:j∈ids
    ·simp only [hm,hmi,if_false,if_true] at hb2
     exact cross i j hn hmi hb' hb2
    ·simp only [hm,hmi,if_false,hj.resolve_right hm,if_true] at hb2
     cases hb2
  ·by_cases hni:i∈ids
   ·simp only [hn,hni,if_false,if_true] at hb'
    by_cases hm:fr<=j/\j<(unpack fr res).2.2
    ·simp only [hm,and_self,if_true] at hb2
     exact cross j i hm hni hb2 hb'
    ·by_cases hmi:j∈ids
     ·simp only [hm,hmi,if_false,if_true] at hb2
      obtain ⟨x1,x2⟩:=hidx2 i hni
      obtain ⟨y1,y2⟩:=hidx2 j hmi
      exact hq2 (idx i) (idx j) (by omega) (by omega) (fun e=>hij (by rw [<- x2,<- y2,e])) b hb' hb2
     ·simp only [hm,hmi,if_false,hj.resolve_right hm,if_true] at hb2
      cases hb2
   ·simp only [hn,hni,if_false,hi.resolve_right hn,if_true] at hb'
    cases hb'
 ·intro v rv id hv hG hid hx
  obtain ⟨id',h1,h2⟩:=hv.isRef
  rw [hid] at h1;cases h1
  rcases hx with hx|hx
  ·have hn:¬ (fr<=id/\id<(unpack fr res).2.2):=by omega
   by_cases hi:id∈ids
   ·obtain ⟨k1,k2⟩:=hidx2 id hi
    obtain ⟨hcs,_⟩:=hpre _ k1
    rw [k2] at hcs
    have hp0:=hG id hi
    rcases hcs with ⟨cs,hcs⟩|⟨szr,nr,cs,hcs⟩
    ·cases v<;>simp only [dH] at hid<;>cases hid
     ·rename_i pth sz o n
      have hp:pth=[]:=by
       cases pth with
       | nil=>rfl
       | cons x xs=>exact absurd (by simp) (hp0 _ (.inl ⟨_,_,_,rfl⟩))
      subst hp
      simp only [RefR] at hv
      exact absurd (by rw [hcs];rfl) (hv.2.2.2.1 cs)
     ·rename_i pth o
      have hp:pth=[]:=by
       cases pth with
       | nil=>rfl
       | cons x xs=>exact absurd (by simp) (hp0 _ (.inr (.inl ⟨_,rfl⟩)))
      subst hp
      simp only [RefR] at hv ⊢
      refine ⟨by omega,hv.2.1,hv.2.2.1,fun _=>?_⟩
      obtain ⟨rvn,g,o',b1,b2,b3⟩:=hv.2.2.2 (by rw [hcs];trivial)
      refine ⟨rvn,g,o',?_,b2,b3⟩
      simp only [hn,if_false]
      exact b1
     ·rename_i pth
      have hp:pth=[]:=by
       cases pth with
       | nil=>rfl
       | cons x xs=>exact absurd (by simp) (hp0 _ (.inr (.inr rfl)))
      subst hp
      simp only [RefR] at hv
      exact absurd (by rw [hcs];rfl) (hv.2.2.2.1 cs)
    ·obtain ⟨cs',hcs'⟩:=hrow _ _ hK _ k1 szr nr cs (by rw [k2];exact hcs)
     have hst':Lk.upd st (ut++kills ids++iF ids outs++(unpack fr res).2.1) id=.osl szr nr cs':=by rw [upd,if_neg hn,if_pos hi,hcs']
     cases v<;>simp only [dH] at hid<;>cases hid
     ·rename_i pth sz o n
      have hp:pth=[]:=by
       cases pth with
       | nil=>rfl
       | cons x xs=>exact absurd (by simp) (hp0 _ (.inl ⟨_,_,_,rfl⟩))
      subst hp
      simp only [RefR] at hv ⊢
      refine ⟨by omega,hv.2.1,hv.2.2.1,fun cs=>?_,fun sz' m cs2 h=>?_⟩
      ·rw [hst'];simp [ah]
      ·rw [hst'] at h
       simp only [ah,HV.osl.injEq] at h
       obtain ⟨rfl,rfl,_⟩:=h
       obtain ⟨q1,a',cap,q2,q3⟩:=hv.2.2.2.2 szr nr cs (by rw [hcs];rfl)
       refine ⟨q1,a',cap,?_,q3⟩
       simp only [hn,if_false]
       exact q2
     ·rename_i pth o
      have hp:pth=[]:=by
       cases pth with
       | nil=>rfl
       | cons x xs=>exact absurd (by simp) (hp0 _ (.inr (.inl ⟨_,rfl⟩)))
      subst hp
      simp only [RefR] at hv ⊢
      refine ⟨by omega,hv.2.1,hv.2.2.1,fun _=>?_⟩
      obtain ⟨rvn,g,o',b1,b2,b3⟩:=hv.2.2.2 (by rw [hcs];trivial)
      refine ⟨rvn,g,o',?_,b2,b3⟩
      simp only [hn,if_false]
      exact b1
     ·rename_i pth
      have hp:pth=[]:=by
       cases pth with
       | nil=>rfl
       | cons x xs=>exact absurd (by simp) (hp0 _ (.inr (.inr rfl)))
      subst hp
      simp only [RefR] at hv ⊢
      refine ⟨by omega,hv.2.1,hv.2.2.1,fun cs=>?_,fun h=>?_⟩
      ·rw [hst'];simp [ah]
      ·rw [hst'] at h
       exact absurd h (by simp [ah,isMp])
   ·have hd:Lk.upd st (ut++kills ids++iF ids outs++(unpack fr res).2.1) id=.dead:=by rw [upd,if_neg hn,if_neg hi,if_pos hx]
    have nd:∀q:List Nat,ah .dead q=.dead:=fun q=>by cases q<;>rfl
    cases v<;>simp only [dH] at hid<;>cases hid
    ·simp only [RefR] at hv ⊢
     refine ⟨by omega,hv.2.1,hv.2.2.1,fun cs=>?_,fun sz' m cs h=>?_⟩
     ·rw [hd,nd];simp
     ·rw [hd,nd] at h;cases h
    ·simp only [RefR] at hv ⊢
     refine ⟨by omega,hv.2.1,hv.2.2.1,fun h=>?_⟩
     rw [hd,nd] at h;exact h.elim
    ·simp only [RefR] at hv ⊢
     refine ⟨by omega,hv.2.1,hv.2.2.1,fun cs=>?_,fun h=>?_⟩
     ·rw [hd,nd];simp
     ·rw [hd,nd] at h;exact h.elim
  ·omega
end
section
variable {P:Program} {E:Fr} {a:Act} {w:World}
def Qy (P:Program) (s:St) (o:HOper) (K:St->Prop):Prop :=
 o.guard=none/\∃f vs io ids,lF s o.op=some (f,vs)/\(ak s.M vs).2.2/\io.length=ids.length/\(∀k,k<ids.length->∃v,vs[io.getD k 0]?=some v/\Ea v (ids.getD k 0))/\ids.Nodup/\∃K0:HV->List HV->Prop,HTI P f (ak s.M vs).1 io K0 /\
  (∀r o,K0 r o->∀k,k<ids.length->∀sz n cs,s.M (ids.getD k 0)=.osl sz n cs->∃cs',o.getD k .dead=.osl sz n cs')/\∀v outs,K0 v outs->outs.length=ids.length ->
  K { ((s.upd ((ak s.M vs).2.1++kills ids++iF ids outs++(unpack s.nx v).2.1)).put o.dst (unpack s.nx v).1) with nx:=(unpack s.nx v).2.2 }
theorem DR {s:St} {o:Oper} {K:St->Prop} {next:Act->World->Prop} {Q:Exit->Act->World->Prop} (hr:SRel E s.nx s a w) (h:Qy P s (aA P E.ok o) K)
  (hn:∀s' a' w',K s'->SRel E s'.nx s' a' w'->next a' w'):o.wp P a w next Q:=by
 obtain ⟨loc,fp,hr⟩:=hr
 obtain ⟨hg,f,vs,io,ids,hc,hside,hlio,hat,hids,K0,hC,hrow,hK0⟩:=h
 unfold aA at hc hK0
 by_cases hd:(o.dst.all fun d=>E.ok d)=true
 ·have hdt:∀t,o.dst=some t->E.ok t=true:=fun t ht=>by simpa [ht] using hd
  simp only [hd,if_true] at hc hK0
  have callgen:∀ (rvs:List Value),(execOp a.eval o).run P w=(callFunc f rvs.toArray).run P w->OW (dX E fp w) w.heap (RefR s.nx s.M loc w.heap) vs rvs []->o.wp P a w next Q:=by
   intro rvs hrun hv
   unfold Oper.wp
   rw [hrun,jT hC.1,Oper.upon_enter]
   refine (EU hr (aP _) hv hside hlio hat hids hC hrow).mono ?_
   rintro e w' ⟨rv,res,outs,rfl,hK,hl,_,hA⟩
   exact hn _ _ _ (hK0 _ _ hK hl) (SRel.done hA hdt)
  unfold lF at hc
  cases hop':aC P o with
  | call f' xs =>
   rw [hop'] at hc
   simp only [HOp.map,bY,kD] at hc
   obtain ⟨rfl,rfl⟩:=hc
   obtain ⟨c,hcc,hcal,rfl⟩:=sK hop'
   refine callgen (c.args.toList.map a.eval) ?_ (by rw [iG,kV];exact hr.vals _)
   have e1:(#[]:Array Value)++c.args.map a.eval++#[]=(c.args.toList.map a.eval).toArray:=by apply qV;simp
   have e2:a.eval (.func f')=.func (.func f') #[] #[]:=rfl
   simp only [execOp,hcc,resolve,hcal,e2,Deferred.ofValue,Sem.run_bind,Sem.run_pure,Result.andThen_ok,invoke,e1]
  | callv x xs =>
   rw [hop'] at hc
   simp only [HOp.map] at hc
   obtain ⟨c,t,hcc,hcal,rfl,rfl⟩:=pF hop'
   have hval:=hr.val (.tmp t)
   simp only [dw] at hval
   have e0:ev s.sl (.t t)=bT s.S (.t t):=by rw [kV]
   rw [e0] at hc
   generalize bT s.S (.t t)=fv at *
   cases fv<;>simp only [reduceCtorEq] at hc
   rename_i f' cap
   simp only [bY,kD] at hc
   obtain ⟨rfl,rfl⟩:=hc
   obtain ⟨rcap,hfe,hcap⟩:=Ae hval
   have hv:=(hr.vals c.args.toList).append hcap
   simp only [List.append_nil] at hv
   refine callgen (c.args.toList.map a.eval++rcap) ?_ (by rw [iG,kV];exact hv)
   have e1:(#[]:Array Value)++c.args.map a.eval++rcap.toArray=(c.args.toList.map a.eval++rcap).toArray:=by apply qV;simp
   simp only [execOp,hcc,resolve,hcal,hfe,Deferred.ofValue,Sem.run_bind,Sem.run_pure,Result.andThen_ok,invoke,e1]
  | _ =>
   rw [hop'] at hc
   simp [HOp.map] at hc
 ·simp only [hd] at hc
  simp [lF,HOp.map] at hc
end
section
variable {P:Program} {k:List HI} {all r:List HOper} {i t nx fr:Nat} {rs:List Nat} {K:HV->Prop} {sl st:List (Nat×HV)} {sd:Prop}
theorem KA {P:Program} {s:St} {i:Nat} {d:Option Nat} {op:HOp HX} {f:FuncId} {vs ts:List HV} {us:List dJ} {sd:Prop} {io ids:List Nat} {K':HV->List HV->Prop} {K:St->Prop} (hc:lF s op=some (f,vs)) (ht:ak s.M vs=(ts,us,sd)) (hs:sd) (hlio:io.length=ids.length) (hat:∀k,k<ids.length->∃v,vs[io.getD k 0]?=some v/\Ea v (ids.getD k 0)) (hids:ids.Nodup) (hC:HTI P f ts io K')
  (hrow:∀r o,K' r o->∀k,k<ids.length->∀sz n cs,s.M (ids.getD k 0)=.osl sz n cs->∃cs',o.getD k .dead=.osl sz n cs')
  (h:∀v outs,K' v outs->outs.length=ids.length->(unpack (s.nx+stride*i) v).2.2<=s.nx+stride*(i+1)/\K ((s.upd (us++kills ids++iF ids outs++(unpack (s.nx+stride*i) v).2.1)).put d (unpack (s.nx+stride*i) v).1)):IR P s i d op K:=by
 intro E ro a w next Q hd ho hr hn
 have h0:(s.M:Lk)=St.M { s with nx:=s.nx+stride*i }:=rfl
 have e1:ro.wp P a w next Q=({ ro with guard:=none }:Oper).wp P a w next Q:=rfl
 rw [e1]
 refine DR (s:={ s with nx:=s.nx+stride*i }) (K:=fun s1=>s1.nx<=s.nx+stride*(i+1)/\K { s1 with nx:=s.nx }) hr ?_ ?_
 ·have ht':(aA P E.ok { ro with guard:=none }).op=op:=by rw [<- ho];rfl
  have hd':(aA P E.ok { ro with guard:=none }).dst=d:=hd
  refine ⟨rfl,f,vs,io,ids,by rw [ht'];exact hc,by rw [<- h0,ht];exact hs,hlio,hat,hids,K',by rw [<- h0,ht];exact hC,hrow,?_⟩
  rw [<- h0,ht,hd']
  refine fun v outs hv hl=>?_
  obtain ⟨h1,h2⟩:=h v outs hv hl
  refine ⟨h1,?_⟩
  have e2:∀ (us:List dJ) (d:Option Nat) (v:HV) (n:Nat),({ ((St.upd { s with nx:=s.nx+stride*i } us).put d v) with nx:=n }:St)={ ((s.upd us).put d v) with nx:=n }:=by
   intro us d v n
   have:∀ (us:List dJ) (s:St) (m:Nat),St.upd { s with nx:=m } us={ s.upd us with nx:=m }:=by
    intro us
    induction us with
    | nil=>intro s m;rfl
    | cons u us ih =>
     intro s m
     cases u with
     | put id t=>exact ih { s with st:=xm id t s.st } m
     | kill id len=>exact ih { s with sl:=s.sl.map fun p=>(p.1,p.2.kill id len) } m
   rw [this]
   cases d<;>rfl
  have e3:∀ (us:List dJ) (d:Option Nat) (v:HV),({ ((s.upd us).put d v) with nx:=s.nx }:St)=(s.upd us).put d v:=by
   intro us d v
   have h4:=St.put_nx (s.upd us) d v
   rw [St.upd_nx] at h4
   rw [<- h4]
  show K { ({ ((St.upd { s with nx:=s.nx+stride*i } (us++kills ids++iF ids outs++(unpack (s.nx+stride*i) v).2.1)).put d (unpack (s.nx+stride*i) v).1) with nx:=(unpack (s.nx+stride*i) v).2.2 }:St) with nx:=s.nx }
  rw [e2]
  show K { ((s.upd _).put d _) with nx:=s.nx }
  rw [e3]
  exact h2
 ·rintro s1 a' w' ⟨h1,h2⟩ hr'
  refine hn { s1 with nx:=s.nx } a' w' rfl (SRel.same (hr'.up h1) rfl rfl) h2
theorem OX [ok:Ok (HS P) k] {d:Option Nat} {op:HOp HX} {f:FuncId} {vs ts:List HV} {us:List dJ} {io ids:List Nat} {K':HV->List HV->Prop} (hc:lF ⟨sl,st,nx⟩ op=some (f,vs)) (ht:ak (fun j=>au j st) vs=(ts,us,sd)) (hs:sd) (hlio:io.length=ids.length) (hat:∀k,k<ids.length->∃v,vs[io.getD k 0]?=some v/\Ea v (ids.getD k 0)) (hids:ids.Nodup) (hC:HTI P f ts io K')
  (hrow:∀r o,K' r o->∀k,k<ids.length->∀sz n cs,au (ids.getD k 0) st=.osl sz n cs->∃cs',o.getD k .dead=.osl sz n cs')
  (h:∀v outs,K' v outs->outs.length=ids.length->∃v' us' n2 sl' st',unpack (nx+stride*i) v=(v',us',n2)/\n2<=nx+stride*(i+1)/\OA d v' (BR sl st (us++kills ids++iF ids outs++us'))=(sl',st')/\G P (HS P) all r (i+1) k rs K sl' st' nx):G P (HS P) all (⟨d,op,none⟩::r) i k rs K sl st nx:=by
 refine Qz (KA (s:=⟨sl,st,nx⟩) hc ht hs hlio hat hids hC hrow ?_)
 intro v outs hv hl
 obtain ⟨v',us',n2,sl',st',h2,h3,h4,h5⟩:=h v outs hv hl
 show (unpack (nx+stride*i) v).2.2<=nx+stride*(i+1)/\hx P _ _ ((St.upd ⟨sl,st,nx⟩ (us++kills ids++iF ids outs++(unpack (nx+stride*i) v).2.1)).put d (unpack (nx+stride*i) v).1)
 rw [h2]
 exact ⟨h3,wP ok.mono ok.plain (sW h4) h5⟩
theorem OV [ok:Ok (HS P) k] {d:Option Nat} {f:FuncId} {xs:List HX} {vs ts:List HV} {us:List dJ} {id sz n:Nat} {K':HV->List HV->Prop} (j:Nat) (hvs:xs.map (ev sl)=vs) (ht:ak (fun j=>au j st) vs=(ts,us,sd)) (hs:sd) (hj:vs[j]?=some (.ref id [] sz 0 n)) (h0:0<n) (h1:0<sz) (hC:HTI P f ts [j] K')
  (hst:∃cs,au id st=.osl sz n cs) (h:∀v outs,K' v outs->v=.tup []/\∃cs',outs=[.osl sz n cs']/\∃sl' st',OA d (.tup []) (BR sl st (us++[.kill id 0]++[.put id (.osl sz n cs')]))=(sl',st')/\G P (HS P) all r (i+1) k rs K sl' st' nx):G P (HS P) all (⟨d,.call f xs,none⟩::r) i k rs K sl st nx:=by
 refine OX (io:=[j]) (ids:=[id]) (K':=K') (by subst hvs;rfl) ht hs rfl (fun k hk=>?_) (by simp) hC (fun r o ho k hk sz2 n2 cs2 h2=>?_) fun v outs hv _=>?_
 ·obtain rfl:k=0:=by simpa using hk
  exact ⟨_,hj,.inr ⟨sz,n,rfl,h0,h1⟩⟩
 ·obtain rfl:k=0:=by simpa using hk
  obtain ⟨cs,hcs⟩:=hst
  have h2':au id st=.osl sz2 n2 cs2:=h2
  rw [hcs] at h2'
  cases h2'
  obtain ⟨_,cs',rfl,_⟩:=h r o ho
  exact ⟨cs',rfl⟩
 ·obtain ⟨rfl,cs',rfl,sl',st',h3,h4⟩:=h v outs hv
  refine ⟨.tup [],[],nx+stride*i,sl',st',rfl,by unfold stride;omega,?_,h4⟩
  simp only [List.append_nil]
  exact h3
end
end Go.HL
