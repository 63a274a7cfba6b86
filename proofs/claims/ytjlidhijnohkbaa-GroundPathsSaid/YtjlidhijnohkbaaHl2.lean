import Derived.Test.YtjlidhijnohkbaaHl1
import Derived.Deep.Upon
import Derived.Great.BuildSlice
import Derived.Laws.Tables
import Derived.DeepKeys3
import Derived.Maps.RangeRun
import Derived.Laws.BytesString
set_option linter.unusedSimpArgs false
set_option linter.unusedVariables false
section
namespace Go.HL
open Go.RowKit
section
variable {P:Program} {E:Fr} {N fr:Nat} {sl st:Lk} {loc:Nat->Value} {fp:Nat->List Nat} {a:Act} {w:World} {o:Oper}
theorem OW.one {F:Nat->Prop} {h:Hp} {R:HV->Value->Prop} {vs:List HV}:∀ {rvs:List Value} {fs:List Nat},OW F h R vs rvs fs->fQ vs=true->∀rv∈rvs,rv.oneCell'=true:=by
 induction vs with
 | nil=>intro rvs fs o _ rv hrv;cases rvs with
  | nil=>cases hrv
  | cons=>exact absurd o.length (by simp)
 | cons v vs ih =>
  intro rvs fs o hc rv hrv
  cases rvs with
  | nil=>cases hrv
  | cons r rvs =>
   obtain ⟨f1,f2,rfl,o1,o2⟩:=o.split1
   simp only [fQ,xX,aG] at hc
   rcases zl008.1 hrv with rfl|h
   ·cases o1<;>first|rfl|(simp [cellV] at hc;done)|(cases v<;>simp_all [cellV,fH])
   ·exact ih o2 hc.2 rv h
structure Src2 (P:Program) (size:Nat) (tx:TypeId) (x:Value) (n:Nat) (news:List Value) (w:World):Prop extends Src P size tx x n news w where
 firsts:∀k,k<=n->(Builtin.firstCells size k x).run P w=.ok (news.take (k*size)).toArray w
theorem Src2.ofSlice (w:World) {size:Nat} {tx e':TypeId} (hk:P.underlying tx=some (.slice e')) (a:Addr) (n c:Nat) (news:List Value) (hl:news.length=n*size) (hnews:∀j u,news[j]?=some u->w.cell? (a.add j)=some u)
  (h1:∀u∈news,u.oneCell'=true):Src2 P size tx (.slice (some a) n c) n news w :=
 { Src.ofSlice w hk a n c news hl hnews h1 with
  firsts:=fun k hkn=>run_firstCells_some w size k a n c (news.take (k*size)) (by rw [gB,hl];exact Nat.min_eq_left (BL _ hkn)) (fun j u hj=>hnews j u (by rw [oO] at hj;split at hj;exact hj;cases hj)) }
theorem Src2.ofNil (w:World) {size:Nat} {tx e':TypeId} (hk:P.underlying tx=some (.slice e')) (c:Nat):Src2 P size tx (.slice none 0 c) 0 [] w :=
 { Src.ofNil w hk c with
  firsts:=fun k hkn=>by
   obtain rfl:k=0:=by omega
   simpa using run_firstCells_none (P:=P) w size 0 0 c }
structure Uz (P:Program) (E:Fr) (fp:Nat->List Nat) (w:World) (st:Lk) (sz:Nat) (tx:TypeId) (ry:Value) (r:Nat×List HV×List dJ×Prop) (rn:List Value) (ff ids:List Nat):Prop where
 own:OW (dX E fp w) w.heap dA r.2.1 rn ff
 nodup:ff.Nodup
 alive:∀id∈ids,st id≠.dead
 from_:∀b∈ff,∃id∈ids,b∈fp id
 upd:∀id,Lk.upd st r.2.2.1 id=if id∈ids then .dead else st id
 sl:∀sl,qF sl r.2.2.1=sl
 src:Src2 P sz tx ry r.1 rn w
theorem DL {l:List HV} (h:aZ l=true):fQ l=true:=by
 unfold aZ at h;unfold fQ
 rw [zl014] at h ⊢
 intro v hv
 have:=h v hv
 cases v<;>simp_all [fH,cellV]
theorem cells_at {cur:Array Value} {e:TypeId} {fz:Nat×Nat} {g:Nat} (hg:w.heap[g]?=some (.cells cur e fz)) {o m:Nat} {off:Nat} {l:List Value} (hl:l=((cur.toList.drop (o+off)).take m)) :
  ∀j v,l[j]?=some v->w.cell? ((⟨g,o+off,none⟩:Addr).add j)=some v:=by
 intro j v hj
 rw [rJ,jf]
 simp only [cellAt,hg]
 rw [hl,oO] at hj
 split at hj
 ·simpa using hj
 ·cases hj
theorem Aa (hr:Rel E N sl st loc fp a w) {tx e:TypeId} (ht:P.underlying tx=some (.slice e)) {flat:Bool} {sz:Nat} {y:HV} {ry:Value} (hy:V E N st loc fp w y ry) (hvc:(aU st flat sz y).2.2.2) :
  ∃rn ff ids,Uz P E fp w st sz tx ry (aU st flat sz y) rn ff ids:=by
 cases y<;>simp only [aU] at hvc ⊢<;>(first|exact hvc.elim|skip)
 ·obtain rfl:=fV hy
  exact ⟨[],[],[],.nil,by simp,by simp,by simp,by simp [Lk.upd],fun _=>rfl,Src2.ofNil w ht 0⟩
 ·rename_i m cs
  rcases xM hy with ⟨rfl,rfl,a',c,rfl⟩|⟨g,off,cap,cur,e',fz,rfl,h1,h2,_,h3⟩
  ·refine ⟨[],[],[],.nil,by simp,by simp,by simp,by simp [Lk.upd],fun _=>rfl,?_⟩
   cases a' with
   | none=>exact Src2.ofNil w ht c
   | some a'=>exact Src2.ofSlice w ht a' 0 c [] (by simp) (by simp) (by simp)
  ·have h5:=h3.one hvc.2
   have hl:=h3.length
   refine ⟨_,[],[],h3,by simp,by simp,by simp,by simp [Lk.upd],fun _=>rfl,Src2.ofSlice w ht _ m cap _ (by omega) ?_ h5⟩
   have:=cells_at h2 (o:=off) (off:=0) (m:=cs.length) (l:=(cur.toList.drop off).take cs.length) (by simp)
   simpa using this
 ·rename_i id p sz' off m
  generalize hnd:ah (st id) p=nd at *
  cases nd<;>simp only at hvc ⊢<;>(first|exact hvc.elim|skip)
  rename_i sz2 m' cs
  have hnode:isNode (ah (st id) p):=by rw [hnd];trivial
  obtain ⟨hid,hp,⟨a',c,rfl,hc,h0⟩,h5,h4⟩:=kS hy
  obtain ⟨rfl,a2,cap,b1,b2⟩:=h4 _ _ _ hnd
  obtain ⟨rv',f1,f',f2,e1,e2,e3,e4,hnil,rep⟩:=(hr.tree id (bV hnode)).focus hp hnode
  rw [e1] at b1
  cases b1
  cases hfl:flat
  ·simp only [hfl,Bool.false_eq_true,if_false] at hvc ⊢
   obtain ⟨rfl,rfl,rfl,rfl,hcell⟩:=hvc
   obtain ⟨rfl,rfl⟩:=hnil rfl
   rw [hnd] at e3
   simp only [List.nil_append,List.append_nil] at e2
   simp only [ah] at hnd
   have upd:∀j,Lk.upd st [.put id .dead] j=if j∈[id] then .dead else st j:=fun j=>by simp [Lk.upd]
   rcases b2 with ⟨rfl,a3,b3⟩|⟨g,o,c',rfl,b3,b4,b5,b6⟩
   ·cases b3
    have hcs:cs=[]:=by
     cases e3 with
     | leaf _ h2=>exact absurd rfl (h2 _ _ _)
     | osl0=>rfl
     | osl _ h2=>exact fG (by simpa using h2)
    subst hcs
    refine ⟨[],[],[id],.nil,by simp,by simp [hnd],by simp,upd,fun _=>rfl,?_⟩
    cases a' with
    | none=>exact Src2.ofNil w ht 0
    | some a'=>exact Src2.ofSlice w ht a' 0 0 [] (by simp) (by simp) (by simp)
   ·cases b3
    cases e3 with
    | leaf _ h2=>exact absurd rfl (h2 _ _ _)
    | osl0=>exact ⟨[],[],[id],.nil,by simp,by simp [hnd],by simp,upd,fun _=>rfl,Src2.ofSlice w ht _ 0 _ [] (by simp) (by simp) (by simp)⟩
    | @osl _ _ _ _ _ _ _ cur e' rvs f3 _ _ _ g1 g2 g3 g4 g5 g6 g7 g8 =>
     cases g8
     have hl:=g7.length
     have hnd2:(g::f3).Nodup:=by have:=hr.nodup id;rw [e2] at this;simpa using this
     refine ⟨rvs,f3,[id],g7,(zl027.1 hnd2).2,by simp [hnd],fun b hb=>⟨id,by simp,by rw [e2];simp [hb]⟩,upd,fun _=>rfl,Src2.ofSlice w ht _ m _ _ (by omega) ?_ (g7.one hcell)⟩
     exact cells_at g1 (off:=0) (by simpa using g3)
  ·simp only [hfl,if_true] at hvc ⊢
   obtain ⟨rfl,hoff,hflat⟩:=hvc
   rw [hnd] at e3
   rcases b2 with ⟨rfl,a3,b3⟩|⟨g,o,c',rfl,b3,b4,b5,b6⟩
   ·cases b3
    have hw:win cs off (0*sz2)=[]:=by unfold win;split;(rename_i h;simp at h;exact fG h.2.symm);simp
    rw [hw]
    refine ⟨[],[],[],.nil,by simp,by simp,by simp,by simp [Lk.upd],fun _=>rfl,?_⟩
    cases a' with
    | none=>exact Src2.ofNil w ht 0
    | some a'=>exact Src2.ofSlice w ht a' 0 0 [] (by simp) (by simp) (by simp)
   ·cases b3
    cases e3 with
    | leaf _ h2=>exact absurd rfl (h2 _ _ _)
    | osl0 =>
     have hm:m*sz2=0:=by simp at hoff;omega
     have hw:win [] off (m*sz2)=[]:=by unfold win;split<;>simp
     rw [hw]
     exact ⟨[],[],[],.nil,by simp,by simp,by simp,by simp [Lk.upd],fun _=>rfl,Src2.ofSlice w ht _ m _ [] (by simp [hm]) (by simp) (by simp)⟩
    | @osl _ _ _ _ _ _ _ cur e' rvs f3 _ _ _ g1 g2 g3 g4 g5 g6 g7 g8 =>
     have h9:=g7.winFlat off (m*sz2) hflat
     have hl:=h9.length
     have hwl:(win cs off (m*sz2)).length=m*sz2:=by
      unfold win;split
      ·rename_i h;omega
      ·simp;omega
     refine ⟨_,[],[],h9,by simp,by simp,by simp,by simp [Lk.upd],fun _=>rfl,Src2.ofSlice w ht _ m _ _ (by omega) ?_ (h9.one (DL hflat))⟩
     refine cells_at g1 (m:=m*sz2) ?_
     rw [g3,List.drop_take,BM,nR]
     congr 1
     omega
end
section
variable {P:Program} {E:Fr} {N fr:Nat} {sl st:Lk} {loc:Nat->Value} {fp:Nat->List Nat} {a:Act} {w:World} {o:Oper}
theorem OW.winOwn {F:Nat->Prop} {h:Hp} {R:HV->Value->Prop} {cs:List HV} {rvs:List Value} {fs:List Nat} (o:OW F h R cs rvs fs) (hnd:fs.Nodup) (off m:Nat) :
  ∃fw,OW F h R (HL.win cs off m) ((rvs.drop off).take m) fw/\(∀b∈fw,b∈fs)/\fw.Nodup:=by
 have hl:=o.length
 unfold HL.win
 split
 ·rename_i hc
  obtain ⟨rfl,rfl⟩:=hc
  rw [hl,List.drop_zero,lV]
  exact ⟨fs,o,fun _ h=>h,hnd⟩
 ·rename_i hc
  have h1:cs=cs.take off++((cs.drop off).take m++(cs.drop off).drop m):=by rw [yc,yc]
  rw [h1] at o
  obtain ⟨ru,rw',f1,f2,e1,rfl,e3,o1,o2⟩:=OW.splitAt o
  obtain ⟨ru2,rw2,f3,f4,e4,rfl,e6,o3,o4⟩:=OW.splitAt o2
  have h3:(rvs.drop off).take m=ru2:=by
   subst e1;subst e4
   rw [gB] at e3 e6
   have l2:=o3.length
   have l4:=o4.length
   simp only [gB,lT] at l2 l4 e6
   rcases dL off cs.length with h|h
   ·have e3':ru.length=off:=by omega
    rw [<- e3',List.drop_left]
    rcases dL m (cs.length - off) with h'|h'
    ·have:ru2.length=m:=by omega
     rw [<- this,List.take_left]
    ·have:rw2=[]:=fG (by omega)
     subst this
     simp only [List.append_nil]
     exact mW (by omega)
   ·have:ru2=[]:=fG (by omega)
    have:rw2=[]:=fG (by omega)
    subst_vars
    simp only [List.append_nil]
    rw [Cj (by omega)];simp
  refine ⟨f3,by rw [h3];exact o3,fun b hb=>by simp [hb],?_⟩
  rw [zl007,zl007] at hnd
  exact hnd.2.1.1
theorem yM {F:Nat->Prop} {h h2:Hp} {sz n fr:Nat} {cs:List HV} {rT:Value} {fT:List Nat} {st':Lk} {loc':Nat->Value} (hT:OW F h dA [.osl sz n cs] [rT] fT) (hs:st' fr=.osl sz n cs) (hlc:loc' fr=rT):RefR (fr+1) st' loc' h2 (.ref fr [] sz 0 n) rT:=by
 have shape:∃a c,rT=.slice a n c/\n<=c/\(0<n->∃g o,a=some ⟨g,o,none⟩)/\((n=0/\∃a',rT=.slice a' 0 0)\/∃g o,a=some ⟨g,o,none⟩):=by
  cases hT with
  | leaf _ _ _ _ _ _ h1=>exact h1.elim
  | osl0=>exact ⟨_,0,rfl,aP _,by simp,.inl ⟨rfl,_,rfl⟩⟩
  | osl _ _ _ _ h6 _ _ _=>exact ⟨_,_,rfl,h6,fun _=>⟨_,_,rfl⟩,.inr ⟨_,_,rfl⟩⟩
 obtain ⟨a',c,rfl,s2,s3,s4⟩:=shape
 refine ⟨by omega,by simp,⟨a',c,rfl,s2,s3⟩,by rw [hs];simp [ah],fun sz' m cs' hg=>?_⟩
 rw [hs] at hg
 simp only [ah,HV.osl.injEq] at hg
 obtain ⟨rfl,rfl,rfl⟩:=hg
 refine ⟨rfl,a',c,by simp [bW,hlc],?_⟩
 rcases s4 with ⟨rfl,a'',h5⟩|⟨g,o,rfl⟩
 ·exact .inl ⟨rfl,a'',h5⟩
 ·exact .inr ⟨g,o,c,rfl,by simp,by simp,s2,aP _⟩
theorem wz {F:Nat->Prop} {h:Hp} {cs:List HV} {rvs:List Value} {fs:List Nat} (hc:OW F h dA cs rvs fs) {n sz cap g:Nat} {z:Value} {e:TypeId} (hl:cs.length=n*sz) (hz:z.cells.size=sz) (hcap:n<=cap) (hmax:cap<=maxLen)
  (hg:h[g]?=some (.cells (rvs.toArray++Builtin.zeroCells z.cells (cap - n)) e (0,0))):OW F h dA [.osl sz n cs] [.slice (some ⟨g,0,none⟩) n cap] (g::fs):=by
 have hlen:=hc.length
 have:=OW.osl (F:=F) (h:=h) (R:=dA) (sz:=sz) (n:=n) (cs:=cs) (g:=g) (off:=0) (cap:=cap) (rvs:=rvs) (r:=[]) (rr:=[]) (fs:=[]) hg hl (by simp [hlen]) (by
  rw [Array.size_append,size_zeroCells,hz]
  simp only [List.size_toArray]
  rw [<- hlen,hl,<- qy,Nat.zero_add]
  congr 1
  omega) hcap hmax hc .nil
 simpa using this
theorem Jw (hr:Rel E N sl st loc fp a w) (hfr:N<=fr) {t tx e e' ty:TypeId} {i:TypeInfo} (ht:P.underlying t=some (.slice e)) (htx:P.underlying tx=some (.slice e')) (hi:P.info? e=some i) {z:Value} (hz:i.zero=some z) (hzs:z.cells.size=i.size)
  {flat:Bool} {x y:HV} {rx ry:Value} (hx:V E N st loc fp w x rx) (hy:V E N st loc fp w y ry) (hvc:(ae st fr (.app flat i.size i.bytes x y)).2.2) :
  ∃r w',(Builtin.append_ #[t,tx] ty #[rx,ry]).run P w=.ok r w'/\After E (fr+1) sl st (ae st fr (.app flat i.size i.bytes x y)).2.1 (ae st fr (.app flat i.size i.bytes x y)).1 r a w':=by
 have hnv:(aU st flat i.size y).2.2.2:=by
  cases x<;>simp only [ae] at hvc<;>(first|exact hvc.elim|exact hvc.1|skip)
  split at hvc
  ·exact hvc.1
  ·exact hvc.elim
 obtain ⟨rn,ff,ids,T⟩:=Aa hr htx hy hnv
 have grow:∀ {base:Option Addr} {sLen sCap:Nat} {olds:List Value},(Builtin.firstCells i.size sLen (.slice base sLen sCap)).run P w.drew=.ok olds.toArray w.drew->sCap<sLen+(aU st flat i.size y).1->(sLen+(aU st flat i.size y).1)*i.bytes<=140737488355328->sLen+(aU st flat i.size y).1<=maxLen->_ :=
  fun {base sLen sCap olds} h1 h2 h3 h4=>run_append_grow_src (P:=P) w t tx ty e i z ht hi hz base sLen sCap olds h1 ry _ rn T.src.toSrc h2 (by unfold maxLen at h4;omega) (growslice_fits h2 h3)
 have hrl:=T.src.toSrc.newsLen
 have hol:=T.own.length
 have hltf:∀b∈ff,b<w.heap.size:=T.own.lt
 cases x<;>simp only [ae] at hvc ⊢<;>(first|exact hvc.elim|skip)
 all_goals generalize aU st flat i.size y=r at *
 ·
  obtain rfl:=fV hx
  obtain ⟨_,hb,hm⟩:=hvc
  by_cases h0:r.1=0
  ·have hrn:rn=[]:=fG (by rw [hrl,h0,Nat.zero_mul])
   have hcs:r.2.1=[]:=fG (by rw [hol,hrn];rfl)
   refine ⟨.slice none 0 0,w,?_,?_⟩
   ·have hs:=T.src.toSrc
    rw [h0,hrn] at hs
    exact run_append_nothing (P:=P) w t tx ty e i ht hi none 0 0 (aP _) ry hs
   ·rw [h0,hcs]
    exact hr.build_sl hfr T.alive T.upd T.sl (aP _) rfl rfl rfl (fun _ _ _=>rfl) (.osl0 .nil) (by simp) (by simp)
  ·have hg:=grow (base:=none) (sLen:=0) (sCap:=0) (olds:=[]) (run_firstCells_none _ _ _ _ _) (by omega) (by simpa using hb) (by simpa using hm)
   simp only [Nat.zero_add,List.nil_append] at hg
   refine ⟨_,_,hg,?_⟩
   have old:∀b,b<w.heap.size->(w.drew.alloc (.cells (rn.toArray++Builtin.zeroCells z.cells (grownCap w r.1 0 e - r.1)) e)).heap[b]?=w.heap[b]?:=fun b hb=>fB w.drew _ hb
   have hsz:(w.drew.alloc (.cells (rn.toArray++Builtin.zeroCells z.cells (grownCap w r.1 0 e - r.1)) e)).heap.size=w.heap.size+1:=dM w.drew _
   have ho:=T.own.stable (F':=dX E fp w) (R':=dA) (fun b hb=>old b (hltf b hb)) (fun b hb=>⟨hb,old b hb.1⟩) (fun _ _ h=>h)
   have:=wz ho (by rw [hol,hrl]) hzs (grownCap_ge w r.1 0 e) (grownCap_le_maxLen w r.1 0 e hm) (iH w.drew _ rfl)
   exact hr.build_sl hfr T.alive T.upd T.sl (by omega) rfl rfl rfl (fun b hb _=>old b hb) this (fun b hb=>by
    rcases zl008.1 hb with rfl|h
    ·exact .inl ⟨aP _,by rw [hsz];exact vV _⟩
    ·exact .inr (T.from_ b h)) (zl027.2 ⟨fun h=>by have:=hltf _ h;exact absurd this (Nat.lt_irrefl _),T.nodup⟩)
 ·rename_i id p sz' off n
  generalize htt:ah (Lk.upd st r.2.2.1 id) p=nd at *
  cases nd<;>simp only at hvc ⊢<;>(first|exact hvc.elim|skip)
  rename_i sz2 n2 cs
  obtain ⟨_,hb,hm,rfl,hoff⟩:=hvc
  have h0:id ∉ ids:=fun h=>by rw [T.upd,if_pos h,mG] at htt;cases htt
  have hst:Lk.upd st r.2.2.1 id=st id:=by rw [T.upd,if_neg h0]
  rw [hst] at htt ⊢
  have hnode:isNode (ah (st id) p):=by rw [htt];trivial
  obtain ⟨hid,hp,⟨a',c,rfl,hc,hsome⟩,h5,h4⟩:=kS hx
  obtain ⟨rfl,a2,cap,b1,b2⟩:=h4 _ _ _ htt
  obtain ⟨rv',f1,f',f2,e1,e2,e3,e4,hnil,rep⟩:=(hr.tree id (bV hnode)).focus hp hnode
  rw [e1] at b1
  cases b1
  rw [htt] at e3
  have hfnd:(f1++f'++f2).Nodup:=by rw [<- e2];exact hr.nodup id
  have hf'nd:f'.Nodup:=by rw [zl007,zl007] at hfnd;exact hfnd.1.2.1
  have hf'sub:∀b∈f',b∈fp id:=fun b hb=>by rw [e2];simp [hb]
  have hf'lt:∀b∈f',b<w.heap.size:=fun b hb=>hr.lt id b (hf'sub b hb)
  have dis:∀b∈ff,b ∉ f':=fun b hb hb'=>by
   obtain ⟨j,hj,h'⟩:=T.from_ b hb
   exact hr.apart id j (fun e=>h0 (e▸hj)) b (hf'sub b hb') h'
  have stus:∀ (TT:HV) j,Lk.upd st (r.2.2.1++[.put id (cu .dead (st id) p),.put fr TT]) j=if j=fr then TT else if j=id then cu .dead (st id) p else if j∈ids then .dead else st j:=fun TT j=>by
   rw [bQ]
   show (if j=fr then TT else if j=id then cu .dead (st id) p else Lk.upd st r.2.2.1 j)=_
   rw [T.upd]
  have slus:∀ (TT:HV),qF sl (r.2.2.1++[.put id (cu .dead (st id) p),.put fr TT])=sl:=fun TT=>by rw [dG,T.sl];rfl
  have fin:∀ {cs':List HV} {rT:Value} {fT:List Nat} {w':World},w.heap.size<=w'.heap.size->w'.os=w.os->w'.tape=w.tape->w'.output=w.output ->
    (∀b,b<w.heap.size->b ∉ f'->w'.heap[b]?=w.heap[b]?)->OW (dX E fp w) w'.heap dA [.osl i.size (n+r.1) cs'] [rT] fT->(∀b∈fT,(w.heap.size<=b/\b<w'.heap.size)\/(∃id∈ids,b∈fp id)\/b∈f')->fT.Nodup ->
    After E (fr+1) sl st (r.2.2.1++[.put id (cu .dead (st id) p),.put fr (.osl i.size (n+r.1) cs')]) (.ref fr [] i.size 0 (n+r.1)) rT a w':=by
   intro cs' rT fT w' q1 q2 q3 q4 q5 q6 q7 q8
   obtain ⟨loc',fp',m1,m2,m3,m4⟩:=hr.mod _ hr.all hfr T.alive h0 hp hnode e1 e2 e4 hnil rep (T'':=.dead) (f'':=[]) (stus _) q1 q2 q3 q4 (fun b hb _ h=>q5 b hb h) (.dead .nil) (.inl rfl) (fun _=>rfl) q6 (by simp) (by simpa using q7) (by simpa using q8) (fun _ _ _ _=>.inl (by rw [mG];rfl))
   refine ⟨loc',fp',by rw [slus];exact m1,cZ rfl (yM q6 ?_ m2)⟩
   rw [stus,if_pos rfl]
  by_cases hcap0:c=0
  ·
   subst hcap0
   obtain rfl:n=0:=by omega
   have hwin:win cs off (0*i.size)=[]:=by unfold win;split;(rename_i h;simp at h;exact fG h.2.symm);simp
   rw [hwin,List.nil_append]
   by_cases hm0:r.1=0
   ·have hrn:rn=[]:=fG (by rw [hrl,hm0,Nat.zero_mul])
    have hcs:r.2.1=[]:=fG (by rw [hol,hrn];rfl)
    have hs:=T.src.toSrc
    rw [hm0,hrn] at hs
    have hrun:=run_append_nothing (P:=P) w t tx ty e i ht hi a' 0 0 (aP _) ry hs
    refine ⟨_,_,hrun,fin (fT:=[]) (aP _) rfl rfl rfl (fun _ _ _=>rfl) ?_ (by simp) (by simp)⟩
    rw [hm0,hcs];exact .osl0 .nil
   ·have hfc:(Builtin.firstCells i.size 0 (.slice a' 0 0)).run P w.drew=.ok ([]:List Value).toArray w.drew:=by
     cases a' with
     | none=>exact run_firstCells_none _ _ _ _ _
     | some a'=>exact run_firstCells_some (P:=P) w.drew i.size 0 a' 0 0 [] (Nat.zero_mul _).symm (fun j v hj=>absurd hj (by simp))
    have hg:=grow hfc (by omega) hb hm
    refine ⟨_,_,hg,?_⟩
    have old:∀b,b<w.heap.size->(w.drew.alloc (.cells (([]++rn).toArray++Builtin.zeroCells z.cells (grownCap w (0+r.1) 0 e - (0+r.1))) e)).heap[b]?=w.heap[b]?:=fun b hb=>fB w.drew _ hb
    have hsz:(w.drew.alloc (.cells (([]++rn).toArray++Builtin.zeroCells z.cells (grownCap w (0+r.1) 0 e - (0+r.1))) e)).heap.size=w.heap.size+1:=dM w.drew _
    have ho:=T.own.stable (F':=dX E fp w) (R':=dA) (fun b hb=>old b (hltf b hb)) (fun b hb=>⟨hb,old b hb.1⟩) (fun _ _ h=>h)
    have:=wz (rvs:=[]++rn) ho (by rw [hol,hrl,Nat.zero_add]) hzs (grownCap_ge w (0+r.1) 0 e) (grownCap_le_maxLen w (0+r.1) 0 e hm) (iH w.drew _ rfl)
    exact fin (by omega) rfl rfl rfl (fun b hb _=>old b hb) this (fun b hb=>by
     rcases zl008.1 hb with rfl|h
     ·exact .inl ⟨aP _,by rw [hsz];exact vV _⟩
     ·exact .inr (.inl (T.from_ b h))) (zl027.2 ⟨fun h=>by have:=hltf _ h;exact absurd this (Nat.lt_irrefl _),T.nodup⟩)
  ·rcases b2 with ⟨rfl,a3,b3⟩|⟨g,oo,c',rfl,b3,b4,b5,b6⟩
   ·cases b3;exact absurd rfl hcap0
   cases b3
   cases e3 with
   | leaf _ h2=>exact absurd rfl (h2 _ _ _)
   | osl0=>omega
   | @osl _ _ _ _ _ _ _ cur e5 rvs f3 _ _ _ g1 g2 g3 g4 g5 g6 g7 g8 =>
    cases g8
    simp only [List.append_nil] at *
    have hg3:g ∉ f3/\f3.Nodup:=zl027.1 hf'nd
    obtain ⟨fw,ow,sw,nw⟩:=g7.winOwn hg3.2 off (n*i.size)
    have hwl:(win cs off (n*i.size)).length=n*i.size:=by
     unfold win;split
     ·rename_i h;omega
     ·simp;omega
    have hrw:(rvs.drop off).take (n*i.size)=(cur.toList.drop (oo+off)).take (n*i.size):=by
     rw [g3,List.drop_take,BM,nR]
     congr 1
     omega
    have gff:g ∉ ff:=fun h=>dis g h (by simp)
    have gnf:¬ dX E fp w g:=fun h=>h.2.2 id (hf'sub g (by simp))
    have fwff:(fw++ff).Nodup:=by
     rw [zl007]
     exact ⟨nw,T.nodup,fun x hx y hy e=>by subst e;exact dis x hy (by simp [sw x hx])⟩
    have oall:OW (dX E fp w) w.heap dA (win cs off (n*i.size)++r.2.1) ((rvs.drop off).take (n*i.size)++rn) (fw++ff):=ow.append T.own
    have lall:(win cs off (n*i.size)++r.2.1).length=(n+r.1)*i.size:=by rw [kL,hwl,hol,hrl,qy]
    by_cases hm0:r.1=0
    ·have hrn:rn=[]:=fG (by rw [hrl,hm0,Nat.zero_mul])
     have hs:=T.src.toSrc
     rw [hm0,hrn] at hs
     have hrun:=run_append_nothing (P:=P) w t tx ty e i ht hi (some ⟨g,oo+off,none⟩) n c hc ry hs
     refine ⟨_,_,hrun,fin (fT:=g::(fw++ff)) (aP _) rfl rfl rfl (fun _ _ _=>rfl) ?_ ?_ ?_⟩
     ·rw [hrn,List.append_nil] at oall
      have:=OW.osl (R:=dA) (sz:=i.size) (n:=n+r.1) (off:=oo+off) (cap:=c) g1 lall (by rw [lall,hm0,Nat.add_zero,hrw]) (by omega) (by omega) (by omega) oall .nil
      simpa [hm0] using this
     ·intro b hb
      rcases zl008.1 hb with rfl|h
      ·exact .inr (.inr (by simp))
      ·rcases zl001.1 h with h|h
       ·exact .inr (.inr (by simp [sw b h]))
       ·exact .inr (.inl (T.from_ b h))
     ·exact zl027.2 ⟨fun h=>by rcases zl001.1 h with h|h;exact hg3.1 (sw g h);exact gff h,fwff⟩
    ·by_cases hroom:n+r.1<=c
     ·
      have hfit:oo+off+n*i.size+rn.length<=cur.size:=by
       rw [hrl]
       have:n*i.size+r.1*i.size<=c*i.size:=by rw [<- qy];exact BL _ hroom
       omega
      have hrun:=run_append_room_src (P:=P) w t tx ty e i ht hi g (oo+off) n c ry r.1 rn T.src.toSrc hroom
       (fun j hj=>by rw [jf];simp only [cellAt,g1];simp;omega) (fun j hj=>by unfold World.frozen?;simp [g1])
      obtain ⟨cur',d1,d2,d3⟩:=oI g rn (oo+off+n*i.size) w cur _ g1
      obtain ⟨m1,m2,m3,m4⟩:=oH g rn (oo+off+n*i.size) w
      have oth:=mM g rn (oo+off+n*i.size) w
      generalize w.setCells g (oo+off+n*i.size) rn=w' at *
      refine ⟨_,_,hrun,fin (fT:=g::(fw++ff)) (by omega) m2 m3 m4 (fun b _ hb=>oth b (fun e=>hb (by simp [e]))) ?_ ?_ ?_⟩
      ·have ost:OW (dX E fp w) w'.heap dA (win cs off (n*i.size)++r.2.1) ((rvs.drop off).take (n*i.size)++rn) (fw++ff) :=
        oall.stable (fun b hb=>oth b (fun e=>by subst e;rcases zl001.1 hb with h|h;exact hg3.1 (sw b h);exact gff h)) (fun b hb=>⟨hb,oth b (fun e=>gnf (e▸hb))⟩) (fun _ _ h=>h)
       have hcells:(rvs.drop off).take (n*i.size)++rn=(cur'.toList.drop (oo+off)).take ((win cs off (n*i.size)++r.2.1).length):=by
        rw [lall,d2,hrw]
        have key:∀ (vs l:List Value) (k:Nat),k+vs.length<=l.length->(bJ l k vs).take (k+vs.length)=l.take k++vs:=by
         intro vs
         induction vs with
         | nil=>intro l k _;simp [bJ]
         | cons v vs ih =>
          intro l k h
          simp only [List.length_cons] at h
          rw [bJ,List.length_cons,show k+(vs.length+1)=(k+1)+vs.length by omega,ih _ (k+1) (by simp;omega)]
          rw [List.take_set,I5 (by omega),I9 _ _ (by simp;omega)]
          simp [show min k l.length=k by omega]
        have h1:=lS cur.toList (oo+off) (cur.size - (oo+off)) rn (n*i.size)
        have h2:∀l:List Value,l.length=cur.size->((l.drop (oo+off)).take (cur.size - (oo+off)))=l.drop (oo+off):=fun l hl=>mW (by simp;omega)
        rw [h2 _ (by rw [pY];simp),h2 _ (by simp)] at h1
        rw [h1]
        have h3:=key rn (cur.toList.drop (oo+off)) (n*i.size) (by simp;omega)
        rw [<- h3,hrl,qy]
       have:=OW.osl (R:=dA) (sz:=i.size) (n:=n+r.1) (off:=oo+off) (cap:=c) d1 lall hcells (by omega) hroom (by omega) ost .nil
       simpa using this
      ·intro b hb
       rcases zl008.1 hb with rfl|h
       ·exact .inr (.inr (by simp))
       ·rcases zl001.1 h with h|h
        ·exact .inr (.inr (by simp [sw b h]))
        ·exact .inr (.inl (T.from_ b h))
      ·exact zl027.2 ⟨fun h=>by rcases zl001.1 h with h|h;exact hg3.1 (sw g h);exact gff h,fwff⟩
     ·
      have hfc:(Builtin.firstCells i.size n (.slice (some ⟨g,oo+off,none⟩) n c)).run P w.drew=.ok ((rvs.drop off).take (n*i.size)).toArray w.drew :=
       run_firstCells_some (P:=P) w.drew i.size n _ n c _ (by rw [<- ow.length,hwl]) (by simpa using cells_at g1 (o:=oo) (off:=off) hrw)
      have hg:=grow hfc (by omega) hb hm
      refine ⟨_,_,hg,?_⟩
      have old:∀b,b<w.heap.size->(w.drew.alloc (.cells (((rvs.drop off).take (n*i.size)++rn).toArray++Builtin.zeroCells z.cells (grownCap w (n+r.1) c e - (n+r.1))) e)).heap[b]?=w.heap[b]?:=fun b hb=>fB w.drew _ hb
      have hsz:(w.drew.alloc (.cells (((rvs.drop off).take (n*i.size)++rn).toArray++Builtin.zeroCells z.cells (grownCap w (n+r.1) c e - (n+r.1))) e)).heap.size=w.heap.size+1:=dM w.drew _
      have flt:∀b∈fw++ff,b<w.heap.size:=fun b hb=>by
       rcases zl001.1 hb with h|h
       ·exact hf'lt b (by simp [sw b h])
       ·exact hltf b h
      have ho:=oall.stable (F':=dX E fp w) (R':=dA) (fun b hb=>old b (flt b hb)) (fun b hb=>⟨hb,old b hb.1⟩) (fun _ _ h=>h)
      have:=wz ho lall hzs (grownCap_ge w (n+r.1) c e) (grownCap_le_maxLen w (n+r.1) c e hm) (iH w.drew _ rfl)
      exact fin (by omega) rfl rfl rfl (fun b hb _=>old b hb) this (fun b hb=>by
       rcases zl008.1 hb with rfl|h
       ·exact .inl ⟨aP _,by rw [hsz];exact vV _⟩
       ·rcases zl001.1 h with h|h
        ·exact .inr (.inr (by simp [sw b h]))
        ·exact .inr (.inl (T.from_ b h))) (zl027.2 ⟨fun h=>by have:=flt _ h;exact absurd this (Nat.lt_irrefl _),fwff⟩)
theorem Ld (hr:Rel E N sl st loc fp a w) (hfr:N<=fr) {t tx e e' ty:TypeId} {i:TypeInfo} (ht:P.underlying t=some (.slice e)) (htx:P.underlying tx=some (.slice e')) (hi:P.info? e=some i) (hsz:i.size=1) {x y:HV} {rx ry:Value} (hx:V E N st loc fp w x rx) (hy:V E N st loc fp w y ry) (hvc:(ae st fr (.cpy x y)).2.2) :
  ∃r w',(Builtin.copy_ #[t,tx] ty #[rx,ry]).run P w=.ok r w'/\After E (fr+1) sl st (ae st fr (.cpy x y)).2.1 (ae st fr (.cpy x y)).1 r a w':=by
 cases x<;>simp only [ae] at hvc ⊢<;>(first|exact hvc.elim|skip)
 rename_i id p sz' off n
 obtain ⟨v0,rfl,v1,v2,v3⟩:=hvc
 obtain ⟨rn,ff,ids,T⟩:=Aa (P:=P) hr htx hy v0
 have hus:(aU st true 1 y).2.2.1=[]:=by
  cases y<;>simp only [aU]<;>(try rfl)
  split<;>rfl
 generalize aU st true 1 y=nw at *
 have hids:ids=[]:=by
  cases ids with
  | nil=>rfl
  | cons j r =>
   have:=T.upd j
   rw [hus] at this
   simp [Lk.upd] at this
   exact absurd this (T.alive j (by simp))
 subst hids
 have hff:ff=[]:=by
  cases ff with
  | nil=>rfl
  | cons b r=>obtain ⟨_,h,_⟩:=T.from_ b (by simp);cases h
 subst hff
 have hkm:min nw.1 n<=nw.1:=Nat.min_le_left _ _
 have hkn:min nw.1 n<=n:=Nat.min_le_right _ _
 generalize hk:min nw.1 n=k at *
 have nl:=T.src.newsLen
 have ol:=T.own.length
 have own:OW (dX E fp w) w.heap dA (nw.2.1.take k) (rn.take k) []:=by
  have h:=T.own.win 0 k
  have e:win nw.2.1 0 k=nw.2.1.take k:=by
   unfold HL.win
   split
   ·rename_i h;rw [h.2,lV]
   ·simp
  rwa [e,List.drop_zero] at h
 have one:∀u∈rn.take k,u.oneCell'=true:=fun u hu=>T.src.one u (zN hu)
 have hrl:(rn.take k).length=k:=by rw [gB,nl];omega
 have hcl:(nw.2.1.take k).length=k:=by rw [gB];omega
 have hfst:=T.src.firsts k hkm
 rw [Nat.mul_one] at hfst
 have hlen:=T.src.len w
 generalize rn.take k=rs at *
 generalize nw.2.1.take k=cs1 at *
 have hklen:0<(aJ (ah (st id) p)).length:=by omega
 have hpt:=pV hklen
 have hnode:=hpt.node
 obtain ⟨hid,hp,⟨a',c,rfl,hc,h0⟩,h5,h4⟩:=kS hx
 obtain ⟨rv',f1,f',f2,e1,e2,e3,e4,hnil,rep⟩:=(hr.tree id (bV hnode)).focus hp hnode
 obtain ⟨sz2,m2',cs2,hosl⟩:∃s m cs,ah (st id) p=.osl s m cs:=by
  generalize hq:ah (st id) p=q at *
  cases q with
  | osl s m cs=>exact ⟨s,m,cs,rfl⟩
  | optr cs=>exact absurd rfl (h5 cs)
  | _=>simp [isPt] at hpt
 obtain ⟨rfl,a2,cap,b1,b2⟩:=h4 _ _ _ hosl
 rw [e1] at b1
 cases b1
 rcases b2 with ⟨h,_⟩|⟨g,o,c',rfl,b3,b4,b5,b6⟩
 ·omega
 cases b3
 obtain ⟨cur,e,fs',c2,rfl,c4⟩:=e3.node (g:=g) (b:=o) rfl hklen
 have cl:=c4.length
 simp only [gB,lT,oP] at cl
 obtain ⟨cur',d1,d2,d3⟩:=oI g rs (o+off) w cur e c2
 obtain ⟨m1,m2,m3,m4⟩:=oH g rs (o+off) w
 have oth:=mM g rs (o+off) w
 generalize hw':w.setCells g (o+off) rs=w' at *
 have hgfp:g∈fp id:=by rw [e2];simp
 have gnf:¬ dX E fp w g:=fun h=>h.2.2 id hgfp
 have hfnd:(f1++(g::fs')++f2).Nodup:=by rw [<- e2];exact hr.nodup id
 have gnd:g ∉ fs'/\fs'.Nodup:=by
  rw [zl007,zl007] at hfnd
  exact zl027.1 hfnd.1.2.1
 have stab:∀ {vs rvs fs},OW (dX E fp w) w.heap dA vs rvs fs->g ∉ fs->OW (dX E fp w) w'.heap dA vs rvs fs:=fun ho hg =>
  ho.stable (fun b hb=>oth b (fun e=>hg (e▸hb))) (fun b hb=>⟨hb,oth b (fun e=>gnf (e▸hb))⟩) (fun _ _ h=>h)
 obtain ⟨fs2,o5,s5,n5⟩:=OW.setFromOwn off (stab c4 gnd.1) (stab own (by simp)) (by omega) gnd.2 (by simp) (fun b hb=>by cases hb)
 have hl':(setFrom (aJ (ah (st id) p)) off cs1).length=(aJ (ah (st id) p)).length:=qU _ _ _
 have onode:=e3.renode (g:=g) (o:=o) rfl hklen c2 d1 d3 (cs':=setFrom (aJ (ah (st id) p)) off cs1) (fs2:=fs2) (F':=dX E fp w) (by rw [hl',d2,lS];exact o5) hl'
 have rnn:=run_storeCells_cells (P:=P) g (o+off) rs 0 w
  (fun j hj=>by
   rw [jf]
   simp only [cellAt,c2]
   rw [Nat.add_zero]
   have:o+off+j<cur.size:=by omega
   simp [this])
  (fun j hj=>by unfold World.frozen?;simp [c2])
  (fun v hv=>one v hv)
 have hrun:(Builtin.copy_ #[t,tx] ty #[.slice (some ⟨g,o+off,none⟩) n c,ry]).run P w=.ok (goInt k) w':=by
  simp only [Nat.add_zero] at rnn
  have hk':Nat.min nw.1 n=k:=hk
  simp [Builtin.copy_,run_underlying ht,sizeOf,typeInfo,hi,hsz,hlen,hk',hfst,rnn,hw']
 refine ⟨_,w',hrun,?_⟩
 have stus:∀j,Lk.upd st [.put id (cu (bu (setFrom (aJ (ah (st id) p)) off cs1) (ah (st id) p)) (st id) p)] j=if j=fr then .dead else if j=id then cu (bu (setFrom (aJ (ah (st id) p)) off cs1) (ah (st id) p)) (st id) p else if j∈([]:List Nat) then .dead else st j:=fun j=>by
  have hidfr:id≠fr:=by omega
  simp only [Lk.upd]
  by_cases h1:j=id
  ·simp [h1,hidfr]
  ·by_cases h2:j=fr
   ·subst h2
    have hd:=hr.new j hfr
    simp [h1,hd]
   ·simp [h1,h2]
 have ehp:∀b,b<w.heap.size->(∀id∈([]:List Nat),b ∉ fp id)->b ∉ g::fs'->w'.heap[b]?=w.heap[b]?:=fun b _ _ hb=>oth b (fun e=>hb (by simp [e]))
 have hsub:∀b,b∈(g::fs2)++[]->(w.heap.size<=b/\b<w'.heap.size)\/(∃id∈([]:List Nat),b∈fp id)\/b∈g::fs':=fun b hb=>by
  simp only [List.append_nil,zl008] at hb
  rcases hb with rfl|hb
  ·exact .inr (.inr (by simp))
  ·rcases s5 b hb with h|h
   ·exact .inr (.inr (by simp [h]))
   ·cases h
 have hnd:((g::fs2)++[]).Nodup:=by
  simp only [List.append_nil,zl027]
  refine ⟨fun h=>?_,n5⟩
  rcases s5 g h with h|h
  ·exact gnd.1 h
  ·cases h
 have hnd0:bu (setFrom (aJ (ah (st id) p)) off cs1) (ah (st id) p)=.dead->(g::fs2)=[]:=fun h=>by
  have:=jK (cs:=setFrom (aJ (ah (st id) p)) off cs1) (t:=ah (st id) p)
  rw [h] at this
  exact absurd this.symm (kind_node.1 hnode)
 have hcell:∀r',r'≠[]->r'.length<=2->(∃v,dH v=some id/\True/\((∃i sz o n,v=.ref i (p++r') sz o n)\/(∃i o,v=.pref i (p++r') o)\/∃i,v=.mref i (p++r'))) ->
   kind (ah (bu (setFrom (aJ (ah (st id) p)) off cs1) (ah (st id) p)) r')=none\/(kind (ah (bu (setFrom (aJ (ah (st id) p)) off cs1) (ah (st id) p)) r')=kind (ah (ah (st id) p) r')/\bW w'.heap (.slice (some ⟨g,o,none⟩) m2' cap) r'=bW w.heap (.slice (some ⟨g,o,none⟩) m2' cap) r'):=by
  intro r' hr' hl2 _
  exact zn hpt hklen v3 (by omega) rfl c2 d1 d2 (by omega) oth c4 gnd.1 r' hr' hl2
 obtain ⟨loc',fp',q1,q2,q3,q4⟩:=hr.mod _ hr.all hfr (by simp) (by simp) hp hnode e1 e2 e4 hnil rep stus (by omega) m2 m3 m4 ehp onode (.inr jK) hnd0 (.dead .nil:OW (dX E fp w) w'.heap dA [.dead] [undef] []) (fun _=>rfl) hsub hnd hcell
 exact ⟨loc',fp',q1,.int .nil⟩
end
section
variable {P:Program} {E:Fr} {N fr:Nat} {sl st:Lk} {loc:Nat->Value} {fp:Nat->List Nat} {a:Act} {w:World} {o:Oper}
theorem iW (cs:List HV) (off m:Nat):(win cs off m).length<=m:=by
 unfold win;split
 ·rename_i h;omega
 ·simp;omega
theorem pq {t e:TypeId} {i:TypeInfo} (ht:P.underlying t=some (.slice e)) (hi:P.info? e=some i) (a0:Option Addr) (n c:Nat) (hc:n<=c) (lo hi':Option Value) (l h:Int)
  (hl:lo=some (.int .i64 l)\/(lo=none/\l=0)) (hh:hi'=some (.int .i64 h)\/(hi'=none/\h=n)) (h1:0<=l) (h2:l<=h) (h3:h<=n) :
  (Instr.sliceAt t (.slice a0 n c) lo hi' none).run P w=.ok (.slice (if c=l.toNat then a0 else a0.map (·.add (l.toNat*i.size))) (h.toNat - l.toNat) (c - l.toNat)) w:=by
 have hh0:0<=h:=by omega
 have hhc:h<=(c:Int):=by omega
 have hlh:l<=(h.toNat:Int):=by omega
 rcases hl with rfl|⟨rfl,rfl⟩<;>rcases hh with rfl|⟨rfl,rfl⟩ <;>
  simp [Instr.sliceAt,Instr.slice,run_underlying ht,Instr.sliceBounds,Instr.sliceBound,asIntOf,sizeOf,typeInfo,hi,h1,hh0,hhc,hlh,go_sem]
 all_goals (intro hbad;exfalso;first|omega|(have:=Int.le_max_left h 0;omega))
theorem KT {t e:TypeId} {i:TypeInfo} (ht:P.underlying t=some (.slice e)) (hi:P.info? e=some i) {x:HV} {rx:Value} {lo hi':Option HV} {rlo rhi:Option Value} (hx:V E N st loc fp w x rx)
  (hlo:(lo=none/\rlo=none)\/∃v rv,lo=some v/\rlo=some rv/\V E N st loc fp w v rv) (hhi:(hi'=none/\rhi=none)\/∃v rv,hi'=some v/\rhi=some rv/\V E N st loc fp w v rv) {L:Lk} (hvc:(ae L fr (.slc i.size x lo hi')).2.2) :
  ∃r,(Instr.sliceAt t rx rlo rhi none).run P w=.ok r w/\V E N st loc fp w (ae L fr (.slc i.size x lo hi')).1 r/\(ae L fr (.slc i.size x lo hi')).2.1=[]:=by
 simp only [ae] at hvc ⊢
 have gl:∀l,lo.getD (.int .i64 0)=.int .i64 l->rlo=some (.int .i64 l)\/(rlo=none/\l=0):=fun l h=>by
  rcases hlo with ⟨rfl,rfl⟩|⟨v,rv,rfl,rfl,hv⟩
  ·exact .inr ⟨rfl,(HV.int.inj h).2.symm⟩
  ·have h':v=.int .i64 l:=h
   subst h';rw [of_int hv];exact .inl rfl
 have gh:∀ (n:Nat) h,hi'.getD (.int .i64 n)=.int .i64 h->rhi=some (.int .i64 h)\/(rhi=none/\h=n):=fun n h e=>by
  rcases hhi with ⟨rfl,rfl⟩|⟨v,rv,rfl,rfl,hv⟩
  ·exact .inr ⟨rfl,(HV.int.inj e).2.symm⟩
  ·have e':v=.int .i64 h:=e
   subst e';rw [of_int hv];exact .inl rfl
 generalize hlv:lo.getD (.int .i64 0)=lv at *
 cases lv<;>(try simp only at hvc)<;>(first|exact hvc.elim|skip)
 rename_i k l
 cases k<;>simp only at hvc ⊢<;>(first|exact hvc.elim|skip)
 have gl:=gl l rfl
 cases x<;>simp only at hvc ⊢<;>(first|exact hvc.elim|skip)
 ·rename_i n cs
  have gh:=gh n
  generalize hhv:hi'.getD (.int .i64 (n:Int))=hv at *
  cases hv<;>(try simp only at hvc)<;>(first|exact hvc.elim|skip)
  rename_i k h
  cases k<;>simp only at hvc ⊢<;>(first|exact hvc.elim|skip)
  have gh:=gh h rfl
  obtain ⟨h1,h2,h3⟩:=hvc
  have hnat:(h - l).toNat=h.toNat - l.toNat:=by omega
  rcases xM hx with ⟨rfl,rfl,a',c,rfl⟩|⟨g,off,cap,cur,e',fz,rfl,q1,q2,q3,q4⟩
  ·have hl0:l=0:=by simp at h3;omega
   have hh0:h=0:=by simp at h3;omega
   refine ⟨_,pq (P:=P) ht hi a' 0 c (gX _) rlo rhi l h gl gh h1 h2 h3,?_,trivial⟩
   clear gl gh hlv hhv
   subst hl0 hh0
   have:win [] 0 0=[]:=by simp [win]
   simp [this]
   exact .sl0 .nil
  ·refine ⟨_,pq (P:=P) ht hi _ n cap q3 rlo rhi l h gl gh h1 h2 h3,?_,trivial⟩
   rw [<- hnat]
   by_cases hn0:(h - l).toNat=0
   ·rw [hn0]
    have hw:(win cs (l.toNat*i.size) (0*i.size))=[]:=fG (by have:=iW cs (l.toNat*i.size) (0*i.size);omega)
    rw [hw]
    exact .sl0 .nil
   ·have hne:¬ cap=l.toNat:=by omega
    rw [if_neg hne]
    simp only [iq,rJ]
    have hw:=q4.win (l.toNat*i.size) ((h - l).toNat*i.size)
    have hlen:=hw.length
    have hle:=iW cs (l.toNat*i.size) ((h - l).toNat*i.size)
    have hcl:=q4.length
    refine .sl q1 q2 ?_ (by omega) hw .nil
    rw [List.drop_take,BM,nR]
    simp only [gB,lT,oP] at hlen hcl
    rw [hlen]
    apply o7
    intro j
    simp only [oO,xH]
    by_cases hj:off+l.toNat*i.size+j<cur.size
    ·have:(j<min ((h - l).toNat*i.size) (cs.length - l.toNat*i.size)) <-> (j<min ((h - l).toNat*i.size) (min cs.length (cur.size - off) - l.toNat*i.size)):=by omega
     by_cases hjj:j<min ((h - l).toNat*i.size) (cs.length - l.toNat*i.size)
     ·rw [if_pos hjj,if_pos (this.1 hjj)]
     ·rw [if_neg hjj,if_neg (fun h=>hjj (this.2 h))]
    ·have:cur.toList[off+l.toNat*i.size+j]?=none:=by simp;omega
     simp [this]
 ·rename_i id p sz' off n
  have gh:=gh n
  generalize hhv:hi'.getD (.int .i64 (n:Int))=hv at *
  cases hv<;>(try simp only at hvc)<;>(first|exact hvc.elim|skip)
  rename_i k h
  cases k<;>simp only at hvc ⊢<;>(first|exact hvc.elim|skip)
  have gh:=gh h rfl
  obtain ⟨h1,h2,h3,rfl⟩:=hvc
  have hnat:(h - l).toNat=h.toNat - l.toNat:=by omega
  obtain ⟨r1,r2,⟨a',c,rfl,hc,h0⟩,r5,r4⟩:=kS hx
  refine ⟨_,pq (P:=P) ht hi a' n c hc rlo rhi l h gl gh h1 h2 h3,cZ rfl ?_,trivial⟩
  rw [<- hnat]
  refine ⟨r1,r2,⟨_,_,rfl,by omega,fun hp=>?_⟩,r5,fun sz2 m cs hg=>?_⟩
  ·have hne:¬ c=l.toNat:=by omega
   obtain ⟨g,o,rfl⟩:=h0 (by omega)
   rw [if_neg hne]
   exact ⟨g,o+l.toNat*i.size,by simp [rJ]⟩
  ·obtain ⟨rfl,a2,cap,b1,b2⟩:=r4 _ _ _ hg
   refine ⟨rfl,a2,cap,b1,?_⟩
   rcases b2 with ⟨rfl,a3,b3⟩|⟨g,o,c',rfl,b3,b4,b5,b6⟩
   ·cases b3
    left
    have hl0:l=0:=by simp at h3;omega
    have hh0:h=0:=by simp at h3;omega
    subst hl0 hh0
    exact ⟨rfl,_,rfl⟩
   ·cases b3
    by_cases hcl:c=l.toNat
    ·left
     rw [if_pos hcl]
     have:(h - l).toNat=0:=by omega
     rw [this]
     exact ⟨rfl,_,by rw [hcl,Nat.sub_self]⟩
    ·right
     rw [if_neg hcl]
     refine ⟨g,o,c - l.toNat,rfl,?_,?_,by omega,by omega⟩
     ·simp [rJ,uw]
     ·have:c*i.size=(c - l.toNat)*i.size+l.toNat*i.size:=by rw [<- qy];congr 1;omega
      omega
theorem Oi {t e:TypeId} {i:TypeInfo} (ht:P.underlying t=some (.slice e)) (hi:P.info? e=some i) (a0:Option Addr) (n c:Nat) (hc:n<=c) :
  ∃a,(Instr.sliceAt t (.slice a0 n c) none (some (.int .i64 0)) (some (.int .i64 0))).run P w=.ok (.slice a 0 0) w:=by
 cases a0 with
 | none=>exact ⟨_,by simp [Instr.sliceAt,Instr.slice,run_underlying ht,Instr.sliceBounds,Instr.sliceBound,asIntOf,sizeOf,typeInfo,hi,go_sem];rfl⟩
 | some a0=>exact ⟨_,by simp [Instr.sliceAt,Instr.slice,run_underlying ht,Instr.sliceBounds,Instr.sliceBound,asIntOf,sizeOf,typeInfo,hi,go_sem];rfl⟩
theorem LQ {x:HV} {rx:Value} (hx:V E N st loc fp w x rx) (h:x=.nils\/(∃n cs,x=.sl n cs)\/∃id p sz off n,x=.ref id p sz off n):∃a n c,rx=.slice a n c/\n<=c:=by
 rcases h with rfl|⟨n,cs,rfl⟩|⟨id,p,sz,off,n,rfl⟩
 ·obtain rfl:=fV hx
  exact ⟨none,0,0,rfl,aP _⟩
 ·rcases xM hx with ⟨rfl,rfl,a',c,rfl⟩|⟨g,off,cap,cur,e',fz,rfl,q1,q2,q3,q4⟩
  ·exact ⟨_,_,_,rfl,gX _⟩
  ·exact ⟨_,_,_,rfl,by assumption⟩
 ·obtain ⟨hid,hp,⟨a',c,rfl,hc,hsome⟩,h5,h4⟩:=kS hx
  exact ⟨_,_,_,rfl,hc⟩
theorem J8 (hr:Rel E N sl st loc fp a w) (hfr:N<=fr) {t e:TypeId} {i:TypeInfo} (ht:P.underlying t=some (.slice e)) (hi:P.info? e=some i) {x:HV} {rx:Value} (hx:V E N st loc fp w x rx) (hvc:(ae st fr (.slz i.size x)).2.2) :
  ∃r w',(Instr.sliceAt t rx none (some (.int .i64 0)) (some (.int .i64 0))).run P w=.ok r w'/\After E (fr+1) sl st (ae st fr (.slz i.size x)).2.1 (ae st fr (.slz i.size x)).1 r a w':=by
 have fin:∀a0:Option Addr,After E (fr+1) sl st [.put fr (.osl i.size 0 [])] (.ref fr [] i.size 0 0) (.slice a0 0 0) a w:=fun a0=>by
  have hT:OW (dX E fp w) w.heap dA [.osl i.size 0 []] [.slice a0 0 0] []:=.osl0 .nil
  obtain ⟨q1,q2,q3⟩:=hr.make hfr (w':=w) (aP _) rfl rfl rfl (fun _ _=>rfl) hT (by simp) (by simp) (by simp)
  exact ⟨_,_,q1,cZ rfl (yM (st':=Lk.upd st [.put fr (.osl i.size 0 [])]) (loc':=fun j=>if j=fr then _ else loc j) hT (by simp [Lk.upd]) (by simp))⟩
 have hsh:x=.nils\/(∃n cs,x=.sl n cs)\/∃id p sz off n,x=.ref id p sz off n:=by
  cases x<;>simp only [ae] at hvc<;>first|exact hvc.elim|simp
 obtain ⟨a0,n,c,rfl,hc⟩:=LQ hx hsh
 obtain ⟨a1,h1⟩:=Oi (P:=P) (w:=w) ht hi a0 n c hc
 refine ⟨_,w,h1,?_⟩
 rcases hsh with rfl|⟨n,cs,rfl⟩|⟨id,p,sz,off,n,rfl⟩<;>exact fin a1
theorem yC (d:Nat) {t e:TypeId} (h:P.underlying t=some (.slice e)):(Op.equalIn (d+1) t (.slice none 0 0) (.slice none 0 0)).run P w=.ok true w:=by
 simp [Op.equalIn,run_underlying h]
theorem ww (d:Nat) {t e:TypeId} (h:P.underlying t=some (.slice e)) (a0:Addr) (n c:Nat):(Op.equalIn (d+1) t (.slice (some a0) n c) (.slice none 0 0)).run P w=.ok false w:=by
 simp [Op.equalIn,run_underlying h]
theorem KY {ne:Bool} {t e:TypeId} {x y:Operand} (ht:P.underlying t=some (.slice e)) {u:HV} {ru:Value} (hu:V E N st loc fp w u ru) {L:Lk} (hvc:(ae L fr (.isn ne u)).2.2) :
  ∃r,(do eqGuard (if ne then .neq else .eql) t x y ru (.slice none 0 0);binOp (if ne then .neq else .eql) t ru (.slice none 0 0):Sem Value).run P w=.ok r w/\V E N st loc fp w (ae L fr (.isn ne u)).1 r/\(ae L fr (.isn ne u)).2.1=[]:=by
 have eqN:(Op.equal t (.slice none 0 0) (.slice none 0 0)).run P w=.ok true w:=yC 9999 ht
 have eqS:∀ (a0:Addr) n c,(Op.equal t (.slice (some a0) n c) (.slice none 0 0)).run P w=.ok false w:=fun a0 n c=>ww 9999 ht a0 n c
 have some_:∀ (a0:Addr) n c,∃r,(do eqGuard (if ne then .neq else .eql) t x y (.slice (some a0) n c) (.slice none 0 0);binOp (if ne then .neq else .eql) t (.slice (some a0) n c) (.slice none 0 0):Sem Value).run P w=.ok r w/\V E N st loc fp w (.bool ne) r:=fun a0 n c=>by
  cases ne
  ·exact ⟨.bool false,by simp [eqGuard,binOp,eqS,go_sem],.bool .nil⟩
  ·exact ⟨.bool true,by simp [eqGuard,binOp,eqS,go_sem],.bool .nil⟩
 cases u<;>simp only [ae] at hvc ⊢<;>(first|exact hvc.elim|skip)
 ·obtain rfl:=fV hu
  cases ne
  ·exact ⟨.bool true,by simp [eqGuard,binOp,eqN,go_sem],.bool .nil,trivial⟩
  ·exact ⟨.bool false,by simp [eqGuard,binOp,eqN,go_sem],.bool .nil,trivial⟩
 ·rename_i n cs
  rcases xM hu with ⟨rfl,rfl,a',c,rfl⟩|⟨g,off,cap,cur,e',fz,rfl,q1,q2,q3,q4⟩
  ·omega
  ·obtain ⟨r,h1,h2⟩:=some_ ⟨g,off,none⟩ n cap
   exact ⟨r,h1,h2,trivial⟩
 ·rename_i id p sz off n
  obtain ⟨hid,hp,⟨a',c,rfl,hc,hsome⟩,h5,h4⟩:=kS hu
  obtain ⟨g,o,rfl⟩:=hsome hvc
  obtain ⟨r,h1,h2⟩:=some_ ⟨g,o,none⟩ n c
  exact ⟨r,h1,h2,trivial⟩
end
theorem yw (l:List Value):∀ (xs ys:List Value) (off:Nat),bJ l off (xs++ys)=bJ (bJ l off xs) (off+xs.length) ys:=by
 intro xs
 induction xs generalizing l with
 | nil=>intro ys off;rfl
 | cons x xs ih=>intro ys off;simp only [List.cons_append,bJ,List.length_cons];rw [ih,show off+(xs.length+1)=off+1+xs.length by omega]
theorem DJ:∀ (vs l:List Value) (k:Nat),k+vs.length=l.length->bJ l k vs=l.take k++vs:=by
 intro vs
 induction vs with
 | nil=>intro l k h;simp only [List.length_nil,Nat.add_zero] at h;simp [bJ,h]
 | cons v vs ih =>
  intro l k h
  simp only [List.length_cons] at h
  rw [bJ,ih _ (k+1) (by simp;omega),List.take_set,I5 (by omega),I9 _ _ (by simp;omega)]
  simp [show min k l.length=k by omega]
theorem Eg (size:Nat):∀ (vs:List Value) (k:Nat) (acc:Array Value),(∀v∈vs,v.cells.size=size)->(k+vs.length)*size<=acc.size ->
  ∃arr,Instr.fill (fun i=>some (i*size,size)) acc ((vs.zipIdx k).map fun x=>(x.2,x.1))=some arr/\arr.toList=bJ acc.toList (k*size) (vs.flatMap (·.cells.toList)):=by
 intro vs
 induction vs with
 | nil=>intro k acc _ _;exact ⟨acc,rfl,rfl⟩
 | cons v vs ih =>
  intro k acc h1 h2
  simp only [List.length_cons] at h2
  have hv:=h1 v (by simp)
  have hb:(k+1)*size<=acc.size:=xy (BL _ (by omega)) h2
  obtain ⟨arr,h3,h4⟩:=ih (k+1) (v.cells.zipIdx.foldl (fun cs x=>cs.setIfInBounds (k*size+x.2) x.1) acc) (fun u hu=>h1 u (by simp [hu])) (by
   have e:v.cells.zipIdx.foldl (fun (cs:Array Value) x=>cs.setIfInBounds (k*size+x.2) x.1) acc=List.foldl (fun (cs:Array Value) (x:Value×Nat)=>cs.setIfInBounds (k*size+x.2) x.1) acc v.cells.toList.zipIdx:=by
    rw [<- Array.foldl_toList,Array.toList_zipIdx]
   rw [e]
   have:=congrArg List.length (nC acc (k*size) 0 v.cells.toList)
   rw [pY] at this
   simp only [oP] at this
   rw [this,show k+1+vs.length=k+(vs.length+1) by omega];exact h2)
  refine ⟨arr,?_,?_⟩
  ·simp only [List.zipIdx_cons,iy,Instr.fill]
   rw [if_neg (by rw [hv];rw [qy,Nat.one_mul] at hb;simp;omega)]
   exact h3
  ·rw [h4]
   have e:(v.cells.zipIdx.foldl (fun (cs:Array Value) x=>cs.setIfInBounds (k*size+x.2) x.1) acc).toList=bJ acc.toList (k*size) v.cells.toList:=by
    rw [<- Array.foldl_toList,Array.toList_zipIdx]
    have:=nC acc (k*size) 0 v.cells.toList
    simpa using this
   rw [e,List.flatMap_cons,yw]
   congr 1
   simp [hv,qy]
section
variable {P:Program} {E:Fr} {N fr:Nat} {sl st:Lk} {loc:Nat->Value} {fp:Nat->List Nat} {a:Act} {w:World} {o:Oper}
theorem GH {F:Nat->Prop} {h:Hp} {R:HV->Value->Prop} (hR:∀v rv,R v rv->rv.cells=#[rv]) {sz:Nat}:∀ {vs:List HV} {rvs:List Value},OW F h R vs rvs []->(vs.all fun v=>(cellsOf v).length==sz)=true->(∀v∈vs,v≠.dead) ->
  OW F h R (vs.flatMap cellsOf) (rvs.flatMap (·.cells.toList)) []/\∀rv∈rvs,rv.cells.size=sz:=by
 intro vs
 induction vs with
 | nil=>intro rvs o _ _;cases rvs with
  | nil=>exact ⟨.nil,by simp⟩
  | cons=>exact absurd o.length (by simp)
 | cons v vs ih =>
  intro rvs o h1 h2
  cases rvs with
  | nil=>exact absurd o.length (by simp)
  | cons rv rvs =>
   obtain ⟨f1,f2,e1,o1,o2⟩:=o.split1
   obtain ⟨rfl,rfl⟩:f1=[]/\f2=[]:=by simpa using e1.symm
   simp only [xX,aG,beq_iff_eq] at h1
   obtain ⟨i1,i2⟩:=ih o2 h1.2 (fun u hu=>h2 u (by simp [hu]))
   have hc:=o1.cells (h2 v (by simp)) hR
   refine ⟨by simpa using hc.append i1,fun r hr=>?_⟩
   rcases zl008.1 hr with rfl|h
   ·have:=hc.length;simp only [oP] at this;omega
   ·exact i2 r h
theorem Iq {L:Lk}:∀ {vs:List HV},(dO L vs).2.2->∀v∈vs,v≠.dead:=by
 intro vs
 induction vs generalizing L with
 | nil=>intro _ v hv;cases hv
 | cons u vs ih =>
  intro h v hv
  simp only [dO] at h
  rcases zl008.1 hv with rfl|hv
  ·rintro rfl;exact h.1
  ·exact ih h.2 v hv
theorem JW (hr:Rel E N sl st loc fp a w) (hfr:N<=fr) {t e:TypeId} {i:TypeInfo} (ht:P.underlying t=some (.slice e)) (hi:P.info? e=some i) {z:Value} (hz:i.zero=some z) (hpos:0<i.size) {n:Nat} (hsm:n*i.size<=16777216)
  {vs:List HV} {rvs:List Value} {parts:Array (Nat×Value)} (hp:parts.toList=(rvs.zipIdx 0).map fun x=>(x.2,x.1)) (hv:OW (dX E fp w) w.heap (RefR N st loc w.heap) vs rvs []) (hvc:(ae st fr (.bsl i.size n vs)).2.2) :
  ∃r w',(Instr.buildSlice t n parts).run P w=.ok r w'/\After E (fr+1) sl st (ae st fr (.bsl i.size n vs)).2.1 (ae st fr (.bsl i.size n vs)).1 r a w':=by
 simp only [ae] at hvc ⊢
 obtain ⟨h1,h2,h3⟩:=hvc
 have hdead:∀v∈vs,v≠.dead:=by
  intro v hv hd
  subst hd
  have:=Iq h1 .dead (zl086.2 ⟨_,hv,by simp [cellsOf]⟩)
  exact this rfl
 obtain ⟨hc,hsz⟩:=GH (fun _ _ h=>h.cells) hv h3 hdead
 obtain ⟨ff,ids,T⟩:=uI hr (fun id=>.inl rfl) hc h1
 generalize dO st (vs.flatMap cellsOf)=r at *
 have hlen:=hv.length
 have hflat:(rvs.flatMap (·.cells.toList)).length=n*i.size:=by
  have:∀l:List Value,(∀rv∈l,rv.cells.size=i.size)->(l.flatMap (·.cells.toList)).length=l.length*i.size:=by
   intro l
   induction l with
   | nil=>intro _;simp
   | cons x l ih=>intro h;rw [List.flatMap_cons,kL,ih fun rv hr=>h rv (by simp [hr])];simp [h x (by simp),qy,jI]
  rw [this rvs hsz,<- hlen,h2]
 by_cases hn0:n=0
 ·have hvs0:rvs=[]:=fG (by omega)
  subst hvs0
  have hp0:parts=#[]:=by apply qV;simpa using hp
  subst hp0
  subst hn0
  have hr1:r.1=[]:=fG (by have:=T.own.length;simpa using this)
  refine ⟨.slice (some ⟨w.heap.size,0,none⟩) 0 0,w.alloc (.cells #[] e),?_,?_⟩
  ·simp [Instr.buildSlice,run_underlying ht,sizeOf,typeInfo,hi,Instr.fill,newRow]
   congr 2
   apply qV
   simp
  ·rw [hr1]
   exact hr.build_sl hfr (fun id h=>(T.alive id h).2) T.upd T.sl (by rw [dM];omega) rfl rfl rfl (fun b hb _=>fB _ _ hb) (.osl0 .nil) (by simp) (by simp)
 ·have hne:¬ n*i.size=0:=Nat.mul_ne_zero hn0 (by omega)
  obtain ⟨arr,h4,h5⟩:=Eg i.size rvs 0 ((Array.range (n*i.size)).map (z.cells[· % z.cells.size]!)) hsz (by simp;rw [<- hlen,<- h2];exact aP _)
  rw [<- hp] at h4
  have hrun:=run_buildSlice (P:=P) w t e n parts arr i z ht hi hz (by simpa using hsm) hne h4
  have harr:arr.toList=rvs.flatMap (·.cells.toList):=by
   rw [h5,Nat.zero_mul,DJ _ _ _ (by rw [hflat];simp)];simp
  obtain ⟨q1,q2,q3⟩:=T.cellsNew (.cells arr e)
  refine ⟨_,_,hrun,?_⟩
  have hsize:arr.size=n*i.size:=by have:=congrArg List.length harr;rw [hflat] at this;simpa using this
  have hl1:=T.own.length
  have:=OW.osl (F:=dX E fp w) (h:=(w.alloc (.cells arr e)).heap) (R:=dA) (sz:=i.size) (n:=n) (off:=0) (cap:=n) (cur:=arr) (e:=e) (r:=[]) (rr:=[]) (fs:=[]) (iH _ _ rfl) (hl1.trans hflat) (by rw [harr,List.drop_zero,hl1,lV]) (by omega) (aP _) (by
   unfold maxLen
   have:n*1<=n*i.size:=Nat.mul_le_mul_left _ hpos
   omega) q1 .nil
  exact hr.build_sl hfr (fun id h=>(T.alive id h).2) T.upd T.sl (by rw [dM];omega) rfl rfl rfl (fun b hb _=>fB _ _ hb) (by simpa using this) (by simpa using q3) (by simpa using q2)
theorem J9 {t:TypeId} {it:TypeInfo} {fs:Array Field} {z:Value} {places:List (Nat×Nat)} (hit:P.info? t=some it) (hu:P.underlying t=some (.struct fs)) (hz:it.zero=some z)
  (hpl:fs.toList.mapM (fun f=>(P.info? f.type).map fun i=>(f.offset,i.size))=some places) {parts:Array (Nat×Value)} {qs:List (Nat×Nat×HV)}
  (h2:Ic (fun p q=>places[p.1]?=some (q.1,q.2.1)/\V E N st loc fp w q.2.2 p.2) parts.toList qs) {L:Lk} (hvc:(ae L fr (.bld (z.cells.toList.map ofVal1) qs)).2.2) :
  ∃r,(Instr.build t parts).run P w=.ok r w/\V E N st loc fp w (ae L fr (.bld (z.cells.toList.map ofVal1) qs)).1 r/\(ae L fr (.bld (z.cells.toList.map ofVal1) qs)).2.1=[]:=by
 simp only [ae] at hvc ⊢
 have nd:∀ (qs:List (Nat×Nat×HV)) (zs:List HV),(lN zs qs).2->∀q∈qs,q.2.2≠.dead:=by
  intro qs
  induction qs with
  | nil=>intro zs _ q hq;cases hq
  | cons q qs ih =>
   intro zs h p hp
   obtain ⟨off,sz,v⟩:=q
   simp only [lN] at h
   rcases zl008.1 hp with rfl|hp
   ·intro hd;simp only at hd;subst hd;have:=h.2.2.2;simp [mg] at this
   ·exact ih _ h.2.2.1 p hp
 have ndq:=nd qs _ hvc
 have a2:Ic (fun p q=>(places.toArray[·]?:Nat->Option (Nat×Nat)) p.1=some (q.1,q.2.1)/\q.2.2≠.dead/\V E N st loc fp w q.2.2 p.2) parts.toList qs:=by
  generalize parts.toList=ps at *
  clear hvc nd
  induction h2 with
  | nil=>exact .nil
  | cons h1 _ ih=>exact .cons ⟨by simpa using h1.1,ndq _ (by simp),h1.2⟩ (ih fun q hq=>ndq q (by simp [hq]))
 obtain ⟨cells',h3,h4⟩:=NL (fun _ _ h=>RefR.cells h) (places.toArray[·]?) parts.toList qs (z.cells.toList.map ofVal1) z.cells a2 (OW.ofVals _) hvc
 refine ⟨.agg cells',run_build (P:=P) w t parts cells' ?_,?_,trivial⟩
 ·simp only [Program.built,hit,hu,hz,hpl]
  exact h3
 ·have:=OW.agg h4 .nil
  simpa using this
end
def eqShape (P:Program) (t:TypeId):Bool :=
 (match P.underlying t with|some (.struct _)=>true|_=>false)&&!P.stoodInHeld t&&!P.eqGuardType P.depth t&&eqFs P 0 (P.fieldsOf t).toList
where eqFs (P:Program):Nat->List Field->Bool
 | _,[]=>true
 | i,f::fs=>f.name != "_" && f.offset==i&&(match P.underlying f.type with|some (.int _)=>true|_=>false)&&(P.info? f.type).isSome&&eqFs P (i+1) fs
theorem uK {F:Nat->Prop} {h:Hp} {R:HV->Value->Prop} {cs:List HV}:∀ {rvs:List Value} {fs:List Nat},OW F h R cs rvs fs->gW cs=true->∃l:List Int,cs=l.map (HV.int .i64)/\rvs=l.map (Value.int .i64):=by
 induction cs with
 | nil=>intro rvs fs o _;exact ⟨[],rfl,fG o.length.symm⟩
 | cons v cs ih =>
  intro rvs fs o hi
  cases rvs with
  | nil=>exact absurd o.length (by simp)
  | cons rv rvs =>
   obtain ⟨f1,f2,_,o1,o2⟩:=o.split1
   cases v<;>(try (simp [gW] at hi;done))
   rename_i k n
   cases k<;>simp [gW] at hi
   obtain ⟨l,rfl,rfl⟩:=ih o2 hi
   have:=of_int o1
   exact ⟨n::l,rfl,by rw [this];rfl⟩
theorem ug {P:Program} {w:World} {d:Nat} {xs ys:List Int}:∀ (fs:List Field) (i:Nat),eqShape.eqFs P i fs=true->i+fs.length=xs.length->xs.length=ys.length ->
  (Op.eqFields (d+1) (xs.map (Value.int .i64)).toArray (ys.map (Value.int .i64)).toArray fs).run P w=.ok (mf ((xs.drop i).map (HV.int .i64)) ((ys.drop i).map (HV.int .i64))) w:=by
 intro fs
 induction fs with
 | nil =>
  intro i _ h1 h2
  rw [Cj (by simp at h1;omega),Cj (by simp at h1;omega)]
  simp [Op.eqFields,mf]
 | cons f fs ih =>
  intro i h h1 h2
  simp only [eqShape.eqFs,aG,bne_iff_ne,ne_eq,beq_iff_eq] at h
  obtain ⟨⟨⟨⟨hn,ho⟩,ht⟩,hi⟩,hr⟩:=h
  simp only [List.length_cons] at h1
  have hx:i<xs.length:=by omega
  have hy:i<ys.length:=by omega
  have eX:xs.drop i=xs[i]::xs.drop (i+1):=Ja hx
  have eY:ys.drop i=ys[i]::ys.drop (i+1):=Ja hy
  cases hu:P.underlying f.type with
  | none=>rw [hu] at ht;cases ht
  | some dd =>
   rw [hu] at ht
   cases dd<;>simp only [Bool.false_eq_true] at ht
   rename_i kk
   have px:∀zs:List Int,∀hz:i<zs.length,(part f.type (zs.map (Value.int .i64)).toArray f.offset).run P w=.ok (.int .i64 zs[i]) w:=fun zs hz=>by
    rw [ho]
    simp [part,mD hu,gU,hz,go_sem]
   have he:(Op.equalIn (d+1) f.type (.int .i64 xs[i]) (.int .i64 ys[i])).run P w=.ok (xs[i]==ys[i]) w:=by simp [Op.equalIn,run_underlying hu]
   rw [eX,eY]
   simp only [iy,mf,Op.eqFields,ne_eq,hn,not_false_eq_true,if_true,Sem.run_bind,px xs hx,px ys hy,Result.andThen_ok,he]
   cases hb:(xs[i]==ys[i]) with
   | false=>simp
   | true =>
    simp only [Bool.not_true,Bool.false_eq_true,if_false,Bool.true_and]
    exact ih (i+1) hr (by omega) h2
def Hm (P:Program) (k:TypeId):Option KK :=
 match P.underlying k with
 | some (.int q)=>some (.int q)
 | some .string=>some .str
 | some (.struct _)=>if eqShape P k then some (.ints (P.fieldsOf k).size) else none
 | _=>none
theorem wY:∀l:List Int,mf (l.map (HV.int .i64)) (l.map (HV.int .i64))=true
 | []=>rfl
 | a::l=>by simp [mf,wY l]
theorem DK:∀ {l m:List Int},mf (l.map (HV.int .i64)) (m.map (HV.int .i64))=true->l=m
 | [],[],_=>rfl
 | a::l,b::m,h=>by
  simp only [iy,mf,aG,beq_iff_eq] at h
  rw [h.1,DK h.2]
 | [],_::_,h=>by simp [mf] at h
 | _::_,[],h=>by simp [mf] at h
theorem sD {cs:List HV} (h:gW cs=true):∃l:List Int,cs=l.map (HV.int .i64):=by
 induction cs with
 | nil=>exact ⟨[],rfl⟩
 | cons v cs ih =>
  cases v<;>(try (simp [gW] at h;done))
  rename_i k n
  cases k<;>simp [gW] at h
  obtain ⟨l,rfl⟩:=ih h
  exact ⟨n::l,rfl⟩
theorem sG (l:List Int):kv (.agg (l.map (HV.int .i64)))=.agg (l.map (Value.int .i64)).toArray:=by
 simp [kv,Function.comp_def]
theorem BI {F:Nat->Prop} {h:Hp} {R:HV->Value->Prop} {kk:KK} {k:HV} {rk:Value} (o:OW F h R [k] [rk] []) (hg:bG kk k=true):rk=kv k:=by
 cases kk<;>cases k<;>simp only [bG,Bool.false_eq_true] at hg
 ·exact of_int o
 ·cases o with
  | leaf h1=>cases h1
  | str=>rfl
 ·simp only [aG] at hg
  obtain ⟨rvs,rfl,o1⟩:=zq o
  obtain ⟨l,rfl,rfl⟩:=uK o1 hg.2
  rw [sG]
theorem Jl {kk:KK} {a b:HV} (ha:bG kk a=true) (hb:bG kk b=true):(tY a b=true <-> kv a=kv b)/\(tY a b=true <-> a=b):=by
 cases kk<;>cases a<;>simp only [bG,Bool.false_eq_true] at ha<;>cases b<;>simp only [bG,Bool.false_eq_true] at hb
 ·simp only [beq_iff_eq] at ha hb
  subst ha hb
  simp [tY,kv]
 ·simp [tY,kv,MapKept.bytes_beq]
 ·simp only [aG] at ha hb
  obtain ⟨l,rfl⟩:=sD ha.2
  obtain ⟨m,rfl⟩:=sD hb.2
  have hi:∀ {l m:List Int},l.map (Value.int .i64)=m.map (Value.int .i64)->l=m:=fun {l m} h=>(List.map_inj_right (fun x y h=>(Value.int.inj h).2)).1 h
  have hj:∀ {l m:List Int},l.map (HV.int .i64)=m.map (HV.int .i64)->l=m:=fun {l m} h=>(List.map_inj_right (fun x y h=>(HV.int.inj h).2)).1 h
  simp only [tY,sG]
  refine ⟨⟨fun h=>by rw [DK h],fun h=>?_⟩,⟨fun h=>by rw [DK h],fun h=>?_⟩⟩
  ·simp only [Value.agg.injEq] at h
   have h2:=congrArg Array.toList h
   rw [hi h2];exact wY _
  ·simp only [HV.agg.injEq] at h
   rw [hj h];exact wY _
structure OY (P:Program) (k:TypeId) (kk:KK):Prop where
 check:∀ (w:World) (em:Bool) {v:HV},bG kk v=true->(Instr.checkKey em 10000 k (kv v)).run P w=.ok () w
 find:∀ (w:World) {x:HV},bG kk x=true->∀ (ks:List HV) (es:List MapEntry),es.map (·.key)=ks.map kv->ks.all (bG kk)=true ->
  (Instr.findKey k (kv x) es).run P w=.ok ((dh x ks).bind fun j=>(es[j]?).map fun e=>(j,e.val)) w
 stays:∀ (w:World) {a:HV},bG kk a=true->(Instr.keyThatStays (kv a) (kv a)).run P w=.ok (kv a) w
theorem Ha {d:TypeDesc} {kk:KK} (hd:(∃q,d=.int q/\kk=.int q)\/(d=.string/\kk=.str)) {x:HV} (hx:bG kk x=true):∀ (ks:List HV) (es:List MapEntry) (i:Nat),es.map (·.key)=ks.map kv->ks.all (bG kk)=true ->
  Instr.findNow d (kv x) es i=some ((dh x ks).bind fun j=>(es[j]?).map fun e=>(i+j,e.val)):=by
 intro ks
 induction ks with
 | nil=>intro es i h _;cases es with
  | nil=>rfl
  | cons=>simp at h
 | cons k ks ih =>
  intro es i h hg
  cases es with
  | nil=>simp at h
  | cons e es =>
   simp only [iy,List.cons.injEq] at h
   simp only [xX,aG] at hg
   have hs:Instr.sameNow d (kv x) e.key=some (tY x k):=by
    rw [h.1]
    rcases hd with ⟨q,rfl,rfl⟩|⟨rfl,rfl⟩
    ·cases x<;>simp only [bG,Bool.false_eq_true,beq_iff_eq] at hx
     cases k<;>simp only [bG,Bool.false_eq_true,false_and,beq_iff_eq] at hg
     obtain ⟨hg,_⟩:=hg
     subst hx hg
     simp [kv,Instr.sameNow,tY]
    ·cases x<;>simp only [bG,Bool.false_eq_true] at hx
     cases k<;>simp only [bG,Bool.false_eq_true,false_and] at hg
     simp [kv,Instr.sameNow,tY]
   rw [Instr.findNow,hs]
   cases hb:tY x k
   ·simp only [dh,hb,Bool.false_eq_true,if_false]
    rw [ih es (i+1) h.2 hg.2]
    cases dh x ks with
    | none=>rfl
    | some j=>simp [uw,jI 1 j]
   ·simp [dh,hb]
theorem Aw {P:Program} {w:World} {k:TypeId} {kk:KK} (heq:∀a b:HV,bG kk a=true->bG kk b=true->(Op.equal k (kv a) (kv b)).run P w=.ok (tY a b) w) {x:HV} (hx:bG kk x=true):∀ (ks:List HV) (es:List MapEntry) (i:Nat),es.map (·.key)=ks.map kv->ks.all (bG kk)=true ->
  (Instr.findAsking k (kv x) es i).run P w=.ok ((dh x ks).bind fun j=>(es[j]?).map fun e=>(i+j,e.val)) w:=by
 intro ks
 induction ks with
 | nil=>intro es i h _;cases es with
  | nil=>simp [Instr.findAsking,dh]
  | cons=>simp at h
 | cons k2 ks ih =>
  intro es i h hg
  cases es with
  | nil=>simp at h
  | cons e es =>
   simp only [iy,List.cons.injEq] at h
   simp only [xX,aG] at hg
   have hs:=heq x k2 hx hg.1
   rw [<- h.1] at hs
   cases hb:tY x k2
   ·simp only [dh,hb,Bool.false_eq_true,if_false]
    rw [hb] at hs
    rw [Instr.findAsking]
    simp only [Sem.run_bind,hs,Result.andThen_ok,Bool.false_eq_true,if_false]
    rw [ih es (i+1) h.2 hg.2]
    cases dh x ks with
    | none=>rfl
    | some j=>simp [uw,jI 1 j]
   ·rw [hb] at hs
    simp [dh,hb,Instr.findAsking,hs]
theorem D5 {P:Program} {w:World} {em:Bool} {n:Nat} {l:List Int}:∀ (fs:List Field) (i:Nat),eqShape.eqFs P i fs=true->i+fs.length=l.length ->
  (forIn fs PUnit.unit fun f (_:PUnit)=>(if f.name ≠ "_" then do
    Instr.checkKey em (n+1) f.type (<- part f.type (l.map (Value.int .i64)).toArray f.offset)
    pure (ForInStep.yield PUnit.unit)
   else pure (ForInStep.yield PUnit.unit)):Sem PUnit).run P w=.ok PUnit.unit w:=by
 intro fs
 induction fs with
 | nil=>intro i _ _;simp
 | cons f fs ih =>
  intro i h hl
  simp only [eqShape.eqFs,aG,bne_iff_ne,ne_eq,beq_iff_eq] at h
  obtain ⟨⟨⟨⟨hn,ho⟩,ht⟩,hi⟩,hr⟩:=h
  simp only [List.length_cons] at hl
  cases hu:P.underlying f.type with
  | none=>rw [hu] at ht;cases ht
  | some dd =>
   rw [hu] at ht
   cases dd<;>simp only [Bool.false_eq_true] at ht
   have hx:i<l.length:=by omega
   have px:(part f.type (l.map (Value.int .i64)).toArray f.offset).run P w=.ok (.int .i64 l[i]) w:=by
    rw [ho]
    simp [part,mD hu,gU,hx,go_sem]
   have pc:(Instr.checkKey em (n+1) f.type (.int .i64 l[i])).run P w=.ok () w:=by simp [Instr.checkKey,run_underlying hu]
   simp only [List.forIn_cons,Sem.run_bind,hn,ne_eq,not_false_eq_true,if_true,Result.andThen_ok,px,pc,Sem.run_pure]
   exact ih (i+1) hr (by omega)
theorem IP {P:Program} {k:TypeId} {kk:KK} (h:Hm P k=some kk):OY P k kk:=by
 unfold Hm at h
 cases hu:P.underlying k with
 | none=>rw [hu] at h;cases h
 | some d =>
  rw [hu] at h
  have plain:((∃q,d=.int q/\kk=.int q)\/(d=.string/\kk=.str))->OY P k kk:=fun hd=>by
   have isK:∀ {v:HV},bG kk v=true->MapKept.IsKey d (kv v):=fun {v} hv=>by
    rcases hd with ⟨q,rfl,rfl⟩|⟨rfl,rfl⟩
    ·cases v<;>simp only [bG,Bool.false_eq_true,beq_iff_eq] at hv
     subst hv
     simp [kv,MapKept.IsKey]
    ·cases v<;>simp only [bG,Bool.false_eq_true] at hv
     simp [kv,MapKept.IsKey]
   refine ⟨fun w em v hv=>MapKept.run_checkKey hu (isK hv) em 9999,fun w x hx ks es he hg=>?_,fun w a ha=>MapKept.run_keyThatStays (isK ha)⟩
   have:=Ha hd hx ks es 0 he hg
   simp only [Nat.zero_add] at this
   exact MapKept.run_findKey hu this
  cases d<;>simp only [reduceCtorEq] at h
  ·rename_i q;cases h;exact plain (.inl ⟨q,rfl,rfl⟩)
  ·cases h;exact plain (.inr ⟨rfl,rfl⟩)
  ·rename_i fs
   split at h
   ·rename_i hs
    cases h
    have hs0:=hs
    simp only [eqShape,aG,uu] at hs
    obtain ⟨⟨⟨h1,h2⟩,h3⟩,h4⟩:=hs
    have hf:P.fieldsOf k=fs:=by simp [Program.fieldsOf,hu]
    have shape:∀ {v:HV},bG (.ints (P.fieldsOf k).size) v=true->∃l:List Int,v=.agg (l.map (HV.int .i64))/\l.length=fs.size:=fun {v} hv=>by
     cases v<;>simp only [bG,Bool.false_eq_true,aG,beq_iff_eq] at hv
     obtain ⟨l,rfl⟩:=sD hv.2
     exact ⟨l,rfl,by have:=hv.1;simp at this;rw [this,hf]⟩
    refine ⟨fun w em v hv=>?_,fun w x hx ks es he hg=>?_,fun w a ha=>?_⟩
    ·obtain ⟨l,rfl,hl⟩:=shape hv
     rw [sG,show (10000:Nat)=9999+1 from rfl,Instr.checkKey]
     simp only [Sem.run_bind,run_underlying hu,Result.andThen_ok]
     rw [<- Array.forIn_toList]
     have:=D5 (P:=P) (w:=w) (em:=em) (n:=9998) (l:=l) fs.toList 0 (by rw [<- hf];exact h4) (by simp [hl])
     rw [this]
     simp
    ·have heq:∀a b:HV,bG (.ints (P.fieldsOf k).size) a=true->bG (.ints (P.fieldsOf k).size) b=true->(Op.equal k (kv a) (kv b)).run P w=.ok (tY a b) w:=fun a b ha hb=>by
      obtain ⟨l,rfl,hl⟩:=shape ha
      obtain ⟨m,rfl,hm⟩:=shape hb
      rw [sG,sG]
      show (Op.equalIn 10000 k _ _).run P w=_
      rw [run_equalIn_struct w 9999 k _ _ (by rw [hf];exact hu) h2]
      have:=ug (P:=P) (w:=w) (d:=9998) (xs:=l) (ys:=m) (P.fieldsOf k).toList 0 h4 (by simp [hl,hf]) (by omega)
      simpa [tY] using this
     rw [run_findKey_eq w (by simp [hu])]
     have:=Aw (w:=w) heq hx ks es 0 he hg
     simpa using this
    ·obtain ⟨l,rfl,hl⟩:=shape ha
     rw [sG]
     have hs:Instr.sameBits 10000 (.agg (l.map (Value.int .i64)).toArray) (.agg (l.map (Value.int .i64)).toArray)=true:=by
      show Instr.sameBits (9999+1) _ _=true
      simp only [Instr.sameBits,beq_self_eq_true,Bool.true_and,zl014]
      intro p hp
      have:p.1=p.2/\∃n,p.1=.int .i64 n:=by
       obtain ⟨i,hi⟩:=List.mem_iff_getElem?.1 hp
       rw [List.getElem?_zip_eq_some] at hi
       obtain ⟨i1,i2⟩:=hi
       rw [i1] at i2
       refine ⟨Option.some.inj i2,?_⟩
       have hm:=List.mem_of_getElem? i1
       obtain ⟨n,_,h⟩:=zl023.1 hm
       exact ⟨n,h.symm⟩
      obtain ⟨q1,n,q2⟩:=this
      rw [<- q1,q2]
      simp [Instr.sameBits]
     simp [Instr.keyThatStays,hs]
   ·cases h
end Go.HL
end
section
namespace Go.HL
open Go.RowKit
open Go.ChangeMaps (setBlock)
section
variable {P:Program} {E:Fr} {N fr:Nat} {sl st:Lk} {loc:Nat->Value} {fp:Nat->List Nat} {a:Act} {w:World}
theorem yK {F:Nat->Prop} {h:Hp} {R:HV->Value->Prop} {rv:Value} {fs:List Nat} (o:OW F h R [.nilm] [rv] fs):rv=.map none:=by
 cases o with
 | leaf h1=>cases h1
 | nilm=>rfl
theorem Dw {F:Nat->Prop} {h:Hp} {R:HV->Value->Prop} {m:MK} {ks cs:List HV} {rv:Value} {fs:List Nat} (o:OW F h R [.rmap m ks cs] [rv] fs) :
  ∃g es ck,rv=.map (some g)/\F g/\h[g]?=some (.map es ck)/\MapOk m ks g es ck/\OW F h dA cs (es.toList.map (·.val)) []:=by
 cases o with
 | leaf h1=>cases h1
 | rmap a b c d _=>exact ⟨_,_,_,rfl,a,b,c,d⟩
theorem Du {F:Nat->Prop} {h:Hp} {m:MK} {ks cs:List HV} {rv:Value} {fs:List Nat} (o:OW F h dA [.omap m ks cs] [rv] fs) :
  ∃g es ck f1,rv=.map (some g)/\h[g]?=some (.map es ck)/\MapOk m ks g es ck/\fs=g::f1/\OW F h dA cs (es.toList.map (·.val)) f1:=by
 cases o with
 | leaf _ _ _ _ _ _ h1=>exact h1.elim
 | omap a b c d=>cases d;exact ⟨_,_,_,_,rfl,a,b,by simp,c⟩
theorem Ij (hr:Rel E N sl st loc fp a w) {id:Nat} {p:List Nat} {rx:Value} (hx:V E N st loc fp w (.mref id p) rx) {m:MK} {ks cs:List HV} (hn:ah (st id) p=.omap m ks cs) :
  ∃g es ck f1,rx=.map (some g)/\id<N/\p.length<=2/\bW w.heap (loc id) p=some rx/\w.heap[g]?=some (.map es ck)/\MapOk m ks g es ck/\OW (dX E fp w) w.heap dA cs (es.toList.map (·.val)) f1:=by
 obtain ⟨hid,hp,_,_,h4⟩:=yN hx
 have hnode:isNode (ah (st id) p):=by rw [hn];trivial
 obtain ⟨rv',f1,f',f2,e1,e2,e3,_,_,_⟩:=(hr.tree id (bV hnode)).focus hp hnode
 have b1:=h4 (by rw [hn];trivial)
 rw [e1] at b1
 cases b1
 rw [hn] at e3
 obtain ⟨g,es,ck,f3,rfl,q1,q2,q3,q4⟩:=Du e3
 exact ⟨g,es,ck,f3,rfl,hid,hp,e1,q1,q2,q4⟩
theorem run_makeMap (t:TypeId):(Instr.makeMap t none).run P w=.ok (.map (some w.heap.size)) (w.alloc (.map #[] 0)):=by
 simp [Instr.makeMap,newObj,Sem.run,go_sem]
theorem EG (hr:Rel E N sl st loc fp a w) (hfr:N<=fr) (t:TypeId) (kk:KK) :
  ∃r w',(Instr.makeMap t none).run P w=.ok r w'/\After E (fr+1) sl st (ae st fr (.mkmap kk)).2.1 (ae st fr (.mkmap kk)).1 r a w':=by
 refine ⟨_,_,run_makeMap t,?_⟩
 have hT:=OW.omap (F:=dX E fp w) (h:=(w.alloc (.map #[] 0)).heap) (R:=dA) (m:=⟨kk,none⟩) (ks:=[]) (cs:=[]) (f1:=[]) (iH w _ rfl) ⟨rfl,rfl,by simp,by simp,.inl rfl⟩ .nil .nil
 obtain ⟨loc',fp',q1,q2,q3,q4⟩:=hr.build (ids:=[]) (us:=[]) (w':=w.alloc (.map #[] 0)) (T:=.omap ⟨kk,none⟩ [] []) (rT:=.map (some w.heap.size)) (fT:=[w.heap.size]) hfr (by simp) (by simp [Lk.upd]) (fun _=>rfl) (by rw [dM];omega) rfl rfl rfl (fun b hb _=>fB _ _ hb) (by simpa using hT) (by simp [dM]) (by simp) (by simp)
 exact ⟨loc',fp',q1,cZ rfl ⟨by omega,by simp,⟨_,.inl rfl⟩,by simp [ah,ae,Lk.upd],fun _=>by simp [bW,q2]⟩⟩
theorem Ig (hr:Rel E N sl st loc fp a w) {t k e ty:TypeId} (ht:P.underlying t=some (.map k e)) {v:HV} {rv:Value} (hv:V E N st loc fp w v rv) (hvc:(ae st fr (.mlen v)).2.2) :
  ∃r,(Builtin.len_ #[t] ty #[rv]).run P w=.ok r w/\V E N st loc fp w (ae st fr (.mlen v)).1 r/\(ae st fr (.mlen v)).2.1=[]:=by
 cases v<;>simp only [ae] at hvc ⊢<;>(first|exact hvc.elim|skip)
 ·obtain rfl:=yK hv
  exact ⟨.int .i64 0,by simp [Builtin.len_,run_underlying ht,goInt,go_sem],.int .nil,trivial⟩
 ·rename_i m ks cs
  obtain ⟨g,es,ck,rfl,h1,h2,h3,h4⟩:=Dw hv
  have hl:=congrArg List.length h3.keys
  simp only [fK,oP] at hl
  exact ⟨.int .i64 ks.length,by rw [<- hl];simp [Builtin.len_,run_underlying ht,MapKept.run_getObj_map h2,goInt,go_sem],.int .nil,trivial⟩
 ·rename_i id p
  generalize hn:ah (st id) p=nd at *
  cases nd<;>simp only at hvc ⊢<;>(first|exact hvc.elim|skip)
  rename_i m ks cs
  obtain ⟨g,es,ck,f1,rfl,_,_,_,h2,h3,_⟩:=Ij hr hv hn
  have hl:=congrArg List.length h3.keys
  simp only [fK,oP] at hl
  exact ⟨.int .i64 ks.length,by rw [<- hl];simp [Builtin.len_,run_underlying ht,MapKept.run_getObj_map h2,goInt,go_sem],.int .nil,trivial⟩
theorem qm (d:Nat) {t k e:TypeId} (h:P.underlying t=some (.map k e)) (x y:Option Nat) (hxy:x=none\/y=none):(Op.equalIn (d+1) t (.map x) (.map y)).run P w=.ok (x==y) w:=by
 rcases hxy with rfl|rfl
 ·cases y<;>simp [Op.equalIn,run_underlying h]
 ·cases x<;>simp [Op.equalIn,run_underlying h]
theorem G5 (hr:Rel E N sl st loc fp a w) {ne:Bool} {t k e:TypeId} {x y:Operand} (ht:P.underlying t=some (.map k e)) {u:HV} {ru:Value} (hu:V E N st loc fp w u ru) (hvc:(ae st fr (.mnil ne u)).2.2) :
  ∃r,(do eqGuard (if ne then .neq else .eql) t x y ru (.map none);binOp (if ne then .neq else .eql) t ru (.map none):Sem Value).run P w=.ok r w/\V E N st loc fp w (ae st fr (.mnil ne u)).1 r/\(ae st fr (.mnil ne u)).2.1=[]:=by
 have eqN:(Op.equal t (.map none) (.map none)).run P w=.ok true w:=qm (P:=P) (w:=w) 9999 ht none none (.inl rfl)
 have eqS:∀g:Nat,(Op.equal t (.map (some g)) (.map none)).run P w=.ok false w:=fun g=>qm (P:=P) (w:=w) 9999 ht (some g) none (.inr rfl)
 have some_:∀g:Nat,∃r,(do eqGuard (if ne then .neq else .eql) t x y (.map (some g)) (.map none);binOp (if ne then .neq else .eql) t (.map (some g)) (.map none):Sem Value).run P w=.ok r w/\V E N st loc fp w (.bool ne) r:=fun g=>by
  cases ne
  ·exact ⟨.bool false,by simp [eqGuard,binOp,eqS,go_sem],.bool .nil⟩
  ·exact ⟨.bool true,by simp [eqGuard,binOp,eqS,go_sem],.bool .nil⟩
 cases u<;>simp only [ae] at hvc ⊢<;>(first|exact hvc.elim|skip)
 ·obtain rfl:=yK hu
  cases ne
  ·exact ⟨.bool true,by simp [eqGuard,binOp,eqN,go_sem],.bool .nil,trivial⟩
  ·exact ⟨.bool false,by simp [eqGuard,binOp,eqN,go_sem],.bool .nil,trivial⟩
 ·obtain ⟨g,es,ck,rfl,_⟩:=Dw hu
  obtain ⟨r,h1,h2⟩:=some_ g
  exact ⟨r,h1,h2,trivial⟩
 ·rename_i id p
  generalize hn:ah (st id) p=nd at *
  cases nd<;>simp only at hvc ⊢<;>(first|exact hvc.elim|skip)
  obtain ⟨g,es,ck,f1,rfl,_⟩:=Ij hr hu hn
  obtain ⟨r,h1,h2⟩:=some_ g
  exact ⟨r,h1,h2,trivial⟩
theorem mV {k:HV}:∀ {ks:List HV} {j:Nat},dh k ks=some j->j<ks.length
 | [],j,h=>by simp [dh] at h
 | x::ks,j,h=>by
  unfold dh at h
  split at h
  ·cases h;simp
  ·cases hf:dh k ks with
   | none=>rw [hf] at h;cases h
   | some i=>rw [hf] at h;simp at h;subst h;have:=mV hf;simp;omega
theorem pO {t k e:TypeId} {kk:KK} (ht:P.underlying t=some (.map k e)) (K:OY P k kk) {ei:TypeInfo} (hi:P.info? e=some ei) {z:Value} (hz:ei.zero=some z) (ok:Bool) {x:HV} (hx:bG kk x=true) {g:Nat} {es:Array MapEntry} {ck:Nat} (hg:w.heap[g]?=some (.map es ck))
  {ks:List HV} (hk:es.toList.map (·.key)=ks.map kv) (hgood:ks.all (bG kk)=true) :
  (Instr.lookup t (.map (some g)) (kv x) ok).run P w=.ok (match (dh x ks).bind fun j=>(es.toList[j]?) with
   | some en=>if ok then .tuple #[en.val,.bool true] else en.val
   | none=>if ok then .tuple #[z,.bool false] else z) w:=by
 have h1:=K.find w hx ks es.toList hk hgood
 have h0:=K.check w es.isEmpty hx
 simp only [Instr.lookup,Sem.run_bind,run_underlying ht,Result.andThen_ok,MapKept.run_getObj_map hg,Sem.run_pure,h0,h1]
 cases hf:dh x ks with
 | none=>simp [zeroValue,typeInfo,hi,hz,go_sem]
 | some j =>
  have hj:j<es.toList.length:=by
   have:=congrArg List.length hk
   simp only [fK] at this
   rw [this];exact mV hf
  simp [dS hj]
  have:es[j]?=some es.toList[j]:=by simp
  simp [this,go_sem]
theorem Ia {F:Nat->Prop} {h:Hp} {R:HV->Value->Prop} {v:HV} {rv:Value} (o:OW F h R [v] [rv] []) (ok b:Bool):OW F h R [okV ok v b] [if ok then .tuple #[rv,.bool b] else rv] []:=by
 cases ok
 ·exact o
 ·have:=OW.tup (F:=F) (h:=h) (R:=R) (o.append (OW.bool (b:=b) .nil)) .nil
  simpa [okV] using this
theorem EC (hr:Rel E N sl st loc fp a w) {t k e:TypeId} {kk:KK} (ht:P.underlying t=some (.map k e)) (hkk:Hm P k=some kk) {ei:TypeInfo} (hi:P.info? e=some ei) {z:Value} (hz:ei.zero=some z) (ok:Bool) {x y:HV} {rx ry:Value} (hx:V E N st loc fp w x rx) (hy:V E N st loc fp w y ry)
  (hvc:(ae st fr (.mlook ok kk (ofVal z) x y)).2.2) :
  ∃r,(Instr.lookup t rx ry ok).run P w=.ok r w/\V E N st loc fp w (ae st fr (.mlook ok kk (ofVal z) x y)).1 r/\(ae st fr (.mlook ok kk (ofVal z) x y)).2.1=[]:=by
 have K:=IP hkk
 have zz:∀b,V E N st loc fp w (okV ok (ofVal z) b) (if ok then .tuple #[z,.bool b] else z):=fun b=>Ia (OW.ofVal z) ok b
 cases x<;>simp only [ae] at hvc ⊢<;>(first|exact hvc.elim|skip)
 ·obtain rfl:=yK hx
  obtain rfl:=BI hy hvc
  refine ⟨if ok then .tuple #[z,.bool false] else z,?_,zz false,trivial⟩
  have h1:=K.find w hvc [] [] rfl rfl
  have h0:=K.check w true hvc
  simp only [Instr.lookup,Sem.run_bind,run_underlying ht,Result.andThen_ok,Sem.run_pure,show (#[]:Array MapEntry).isEmpty=true from rfl,h0,h1]
  simp [dh,zeroValue,typeInfo,hi,hz,go_sem]
 ·rename_i m ks cs
  obtain ⟨g,es,ck,rfl,h1,h2,h3,h4⟩:=Dw hx
  cases hf:dh y ks with
  | none =>
   simp only [hf] at hvc ⊢
   obtain ⟨rfl,hg⟩:=hvc
   obtain rfl:=BI hy hg
   refine ⟨_,pO ht K hi hz ok hg h2 h3.keys h3.good,?_,trivial⟩
   simp only [hf,Option.bind_none];exact zz false
  | some j =>
   simp only [hf] at hvc ⊢
   obtain ⟨rfl,hg⟩:=hvc
   obtain rfl:=BI hy hg
   refine ⟨_,pO ht K hi hz ok hg h2 h3.keys h3.good,?_,trivial⟩
   have hl:=congrArg List.length h3.keys
   simp only [fK] at hl
   have hjl:=mV hf
   have h4l:=h4.length
   simp only [fK] at h4l
   obtain ⟨rv,q1,q2⟩:=h4.get j (by omega)
   have hj:j<es.toList.length:=by omega
   simp only [hf,Df,dS hj]
   rw [iT,dS hj] at q1
   simp only [iq,bY] at q1
   rw [q1]
   exact Ia (q2.mono fun _ _ h=>h.elim) ok true
 ·rename_i id p
  generalize hn:ah (st id) p=nd at *
  cases nd<;>simp only at hvc ⊢<;>(first|exact hvc.elim|skip)
  rename_i m ks cs
  obtain ⟨g,es,ck,f1,rfl,hid,hp,hnav,h2,h3,h4⟩:=Ij hr hx hn
  cases hf:dh y ks with
  | none =>
   simp only [hf] at hvc ⊢
   obtain ⟨rfl,hg⟩:=hvc
   obtain rfl:=BI hy hg
   refine ⟨_,pO ht K hi hz ok hg h2 h3.keys h3.good,?_,trivial⟩
   simp only [hf,Option.bind_none];exact zz false
  | some j =>
   simp only [hf] at hvc ⊢
   obtain ⟨rfl,hg⟩:=hvc
   obtain rfl:=BI hy hg
   refine ⟨_,pO ht K hi hz ok hg h2 h3.keys h3.good,?_,trivial⟩
   have hl:=congrArg List.length h3.keys
   simp only [fK] at hl
   have hjl:=mV hf
   have h4l:=h4.length
   simp only [fK] at h4l
   obtain ⟨rv,g1,g2,g3,q1,q2,q3,_⟩:=h4.at j (by omega)
   have hj:j<es.toList.length:=by omega
   simp only [hf,Df,dS hj]
   rw [iT,dS hj] at q1
   simp only [iq,bY] at q1
   rw [q1]
   refine Ia (q3.look hid hp (fun _ _ h=>h.elim) ⟨?_,?_⟩) ok true
   ·rw [nK,hn];simp [ah]
   ·rw [vH hnav]
    have hj2:j<es.size:=by simpa using hj
    simp only [bW,je,Nat.zero_add]
    rw [H8 h2,jv hj2]
    simpa using q1
end
section
variable {P:Program} {E:Fr} {N fr:Nat} {sl st:Lk} {loc:Nat->Value} {fp:Nat->List Nat} {a:Act} {w:World}
def jG (es:Array MapEntry) (ck:Nat) (k v:Value):Option Nat->Array MapEntry×Nat
 | some j=>(es.modify j fun e=>{ e with key:=k,val:=v },ck)
 | none=>(es.push ⟨k,v,ck⟩,ck+1)
theorem Aq {t k e:TypeId} {kk:KK} (ht:P.underlying t=some (.map k e)) (K:OY P k kk) {x:HV} (hx:bG kk x=true) {g:Nat} {es:Array MapEntry} {ck:Nat} (hg:w.heap[g]?=some (.map es ck))
  {ks:List HV} (hk:es.toList.map (·.key)=ks.map kv) (hgood:ks.all (bG kk)=true) (v:Value) :
  (Instr.mapUpdate t (.map (some g)) (kv x) v).run P w=.ok () (setBlock w g (.map (jG es ck (kv x) v (dh x ks)).1 (jG es ck (kv x) v (dh x ks)).2)):=by
 have h1:=K.find w hx ks es.toList hk hgood
 have h0:=K.check w false hx
 simp only [Instr.mapUpdate,Sem.run_bind,run_underlying ht,Result.andThen_ok,MapKept.run_getObj_map hg,h0,h1]
 cases hf:dh x ks with
 | none=>simp [MapKept.run_setObj_map _ hg,setBlock,jG]
 | some j =>
  have hl:es.toList.length=ks.length:=by simpa using congrArg List.length hk
  have hj:j<es.toList.length:=by rw [hl];exact mV hf
  have hkey:es.toList[j].key=kv x:=by
   have h2:(es.toList.map (·.key))[j]?=(ks.map kv)[j]?:=by rw [hk]
   have hjk:j<ks.length:=by omega
   rw [iT,iT,dS hj,dS hjk] at h2
   simp only [iq,bY] at h2
   rw [h2]
   have:∀ (ks:List HV) (j:Nat) (hj:j<ks.length),dh x ks=some j->ks.all (bG kk)=true->kv ks[j]=kv x:=by
    intro ks
    induction ks with
    | nil=>intro j hj;simp at hj
    | cons y ks ih =>
     intro j hj hf hg
     simp only [xX,aG] at hg
     unfold dh at hf
     split at hf
     ·rename_i hb
      cases hf
      exact ((Jl hx hg.1).1.1 hb).symm
     ·cases hq:dh x ks with
      | none=>rw [hq] at hf;cases hf
      | some i =>
       rw [hq] at hf;simp at hf;subst hf
       simp only [List.getElem_cons_succ]
       exact ih i (by simpa using hj) hq hg.2
   exact this ks j hjk hf hgood
  have hs:=K.stays w hx
  have hj2:j<es.size:=by simpa using hj
  have e1:es[j]?=some es[j]:=jv hj2
  have e2:es[j].key=kv x:=by simpa using hkey
  simp [dS hj,e1,e2,hs,MapKept.run_setObj_map _ hg,setBlock,jG]
theorem MS {es:Array MapEntry} {ck:Nat} {k v:Value} (o:Option Nat):(jG es ck k v o).1.toList.map (·.val)=match o with
  | some j=>(es.toList.map (·.val)).set j v
  | none=>es.toList.map (·.val)++[v]:=by
 cases o with
 | none=>simp [jG]
 | some j =>
  simp only [jG]
  apply o7
  intro i
  simp only [iT,kz,Array.getElem?_modify,List.getElem?_set,fK,oP]
  by_cases h:j=i
  ·subst h
   by_cases hl:j<es.size
   ·simp [hl,jv hl]
   ·simp [hl,uj (vX hl)]
  ·simp [h]
theorem EJ {es:Array MapEntry} {ck:Nat} {k v:Value} (o:Option Nat) (ho:∀j,o=some j->(es.toList.map (·.key))[j]?=some k):(jG es ck k v o).1.toList.map (·.key)=match o with
  | some _=>es.toList.map (·.key)
  | none=>es.toList.map (·.key)++[k]:=by
 cases o with
 | none=>simp [jG]
 | some j =>
  have h1:=ho j rfl
  simp only [jG]
  apply o7
  intro i
  simp only [iT,kz,Array.getElem?_modify] at h1 ⊢
  by_cases h:j=i
  ·subst h
   cases he:es[j]? with
   | none=>simp
   | some x=>rw [he] at h1;simp at h1 ⊢;exact h1.symm
  ·simp [h]
theorem Jp {es:Array MapEntry} {ck:Nat} {k v:Value} (o:Option Nat):(jG es ck k v o).1.toList.map (·.born)=match o with
  | some _=>es.toList.map (·.born)
  | none=>es.toList.map (·.born)++[ck]:=by
 cases o with
 | none=>simp [jG]
 | some j =>
  simp only [jG]
  apply o7
  intro i
  simp only [iT,kz,Array.getElem?_modify]
  by_cases h:j=i
  ·subst h
   cases he:es[j]?<;>simp
  ·simp [h]
theorem JB {kk:KK} {x:HV} (hx:bG kk x=true):∀ {ks:List HV} {j:Nat},dh x ks=some j->ks.all (bG kk)=true->(ks.map kv)[j]?=some (kv x):=by
 intro ks
 induction ks with
 | nil=>intro j h;simp [dh] at h
 | cons y ks ih =>
  intro j hf hg
  simp only [xX,aG] at hg
  unfold dh at hf
  split at hf
  ·rename_i hb
   cases hf
   simp only [iy,List.getElem?_cons_zero,bY]
   exact ((Jl hx hg.1).1.1 hb).symm
  ·cases hq:dh x ks with
   | none=>rw [hq] at hf;cases hf
   | some i =>
    rw [hq] at hf;simp at hf;subst hf
    simpa using ih hq hg.2
theorem MapOk.put {m:MK} {ks:List HV} {g:Nat} {es:Array MapEntry} {ck:Nat} (h:MapOk m ks g es ck) {x:HV} (hx:bG m.kind x=true) (v:Value) :
  (match dh x ks with|some _=>MapOk m ks|none=>MapOk m.grow (ks++[x])) g (jG es ck (kv x) v (dh x ks)).1 (jG es ck (kv x) v (dh x ks)).2:=by
 have hb:=Jp (es:=es) (ck:=ck) (k:=kv x) (v:=v) (dh x ks)
 have hlt:∀b∈es.toList.map (·.born),b<ck:=fun b hb=>by
  obtain ⟨e,he,rfl⟩:=zl023.1 hb
  exact h.lt e he
 cases hf:dh x ks with
 | some j =>
  rw [hf] at hb
  have hk:(jG es ck (kv x) v (some j)).1.toList.map (·.key)=es.toList.map (·.key):=EJ (es:=es) (ck:=ck) (k:=kv x) (v:=v) (some j) (fun i hi=>by cases hi;rw [h.keys];exact JB hx hf h.good)
  refine ⟨hk.trans h.keys,h.good,fun e he=>?_,by rw [hb];exact h.nodup,?_⟩
  ·have:e.born∈((jG es ck (kv x) v (some j)).1.toList.map (·.born)):=zl023.2 ⟨e,he,rfl⟩
   rw [hb] at this
   exact hlt _ this
  ·rw [hb];exact h.pin
 | none =>
  rw [hf] at hb
  have hk:(jG es ck (kv x) v none).1.toList.map (·.key)=es.toList.map (·.key)++[kv x]:=EJ (es:=es) (ck:=ck) (k:=kv x) (v:=v) none (fun i hi=>by cases hi)
  refine ⟨by rw [hk,h.keys];simp,?_,fun e he=>?_,?_,?_⟩
  ·have:(m.grow).kind=m.kind:=rfl
   rw [this,List.all_append,h.good]
   simp [hx]
  ·have:e.born∈((jG es ck (kv x) v none).1.toList.map (·.born)):=zl023.2 ⟨e,he,rfl⟩
   rw [hb] at this
   rcases zl001.1 this with h1|h1
   ·have:=hlt _ h1;exact Nat.lt_succ_of_lt this
   ·simp at h1;rw [h1];exact vV _
  ·rw [hb,zl007]
   exact ⟨h.nodup,by simp,fun x hx y hy e=>by simp at hy;subst hy;have:=hlt x hx;omega⟩
  ·rw [hb]
   rcases h.pin with h1|h1
   ·left;simp [MK.grow,h1]
   ·right;simp [MK.grow,h1,jG]
theorem QK {l:List HV} {rs:List Value} {fs:List Nat} {F:Nat->Prop} {h:Hp} (o:OW F h dA l rs fs) {j:Nat} (hj:j<l.length) {v:HV} {rv:Value} {fv:List Nat} (ov:OW F h dA [v] [rv] fv) (hn:fs.Nodup) (hv:fv.Nodup) (hd:∀b∈fv,b ∉ fs) :
  ∃f2,OW F h dA (l.set j v) (rs.set j rv) f2/\f2.Nodup/\∀b∈f2,b∈fs\/b∈fv:=by
 obtain ⟨rv0,g1,g2,g3,_,e2,_,rep⟩:=o.at j hj
 have:=rep F h dA v rv fv (fun _ _=>rfl) (fun b hb=>⟨hb,rfl⟩) (fun _ _ h=>h) ov
 refine ⟨_,this,?_,fun b hb=>?_⟩
 ·subst e2
  rw [zl007,zl007] at hn ⊢
  obtain ⟨⟨n1,n2,n3⟩,n4,n5⟩:=hn
  refine ⟨⟨n1,hv,fun x hx y hy e=>?_⟩,n4,fun x hx y hy e=>?_⟩
  ·subst e;exact hd x hy (by simp [hx])
  ·subst e
   rcases zl001.1 hx with h1|h1
   ·exact n5 x (by simp [h1]) x hy rfl
   ·exact hd x h1 (by simp [hy])
 ·subst e2
  rcases zl001.1 hb with h1|h1
  ·rcases zl001.1 h1 with h2|h2
   ·exact .inl (by simp [h2])
   ·exact .inr h2
  ·exact .inl (by simp [h1])
theorem zD (hr:Rel E N sl st loc fp a w) (hfr:N<=fr) {t k e:TypeId} {kk:KK} (ht:P.underlying t=some (.map k e)) (hkk:Hm P k=some kk) {x y v:HV} {rx ry rv:Value} (hx:V E N st loc fp w x rx) (hy:V E N st loc fp w y ry) (hv:V E N st loc fp w v rv)
  (hvc:(ae st fr (.mset kk x y v)).2.2) :
  ∃w',(Instr.mapUpdate t rx ry rv).run P w=.ok () w'/\After E (fr+1) sl st (ae st fr (.mset kk x y v)).2.1 .dead undef a w':=by
 have K:=IP hkk
 cases x<;>simp only [ae] at hvc ⊢<;>(first|exact hvc.elim|skip)
 rename_i id p
 generalize hr0:takeC st v=r at *
 generalize hn0:ah (Lk.upd st r.2.1 id) p=nd at *
 cases nd<;>simp only at hvc ⊢<;>(first|exact hvc.elim|skip)
 rename_i m ks cs
 obtain ⟨v1,rfl,v3⟩:=hvc
 obtain ⟨ff,ids,T⟩:=uH hr (fun id=>.inl rfl) hv (by rw [hr0];exact v1)
 rw [hr0] at T
 have hup:=T.upd
 have h0:id ∉ ids:=fun h=>by rw [hup,if_pos h,mG] at hn0;cases hn0
 have htid:Lk.upd st r.2.1 id=st id:=by rw [hup,if_neg h0]
 rw [htid] at hn0 ⊢
 have hnode:isNode (ah (st id) p):=by rw [hn0];trivial
 obtain ⟨hid,hp,_,_,hn4⟩:=yN hx
 obtain ⟨rv',f1,f',f2,e1,e2,e3,e4,hnil,rep⟩:=(hr.tree id (bV hnode)).focus hp hnode
 have b1:=hn4 (by rw [hn0];trivial)
 rw [e1] at b1
 cases b1
 rw [hn0] at e3
 obtain ⟨g,es,ck,ff1,rfl,c2,c3,rfl,c4⟩:=Du e3
 obtain rfl:=BI hy v3
 have hrun:=Aq (P:=P) (w:=w) ht K v3 c2 c3.keys c3.good rv
 generalize hes:jG es ck (kv y) rv (dh y ks)=pe at *
 refine ⟨_,hrun,?_⟩
 have d1:(setBlock w g (.map pe.1 pe.2)).heap[g]?=some (.map pe.1 pe.2):=ChangeMaps.heap_setBlock_same c2 _
 have oth:∀b,b≠g->(setBlock w g (.map pe.1 pe.2)).heap[b]?=w.heap[b]?:=fun b hb=>ChangeMaps.heap_setBlock_other c2 _ hb
 have m1:(setBlock w g (.map pe.1 pe.2)).heap.size=w.heap.size:=by simp [setBlock]
 have m2:(setBlock w g (.map pe.1 pe.2)).os=w.os:=rfl
 have m3:(setBlock w g (.map pe.1 pe.2)).tape=w.tape:=rfl
 have m4:(setBlock w g (.map pe.1 pe.2)).output=w.output:=rfl
 generalize setBlock w g (.map pe.1 pe.2)=w' at *
 have hgfp:g∈fp id:=by rw [e2];simp
 have gnf:¬ dX E fp w g:=fun h=>h.2.2 id hgfp
 have hfnd:(f1++(g::ff1)++f2).Nodup:=by rw [<- e2];exact hr.nodup id
 have gnd:g ∉ ff1/\ff1.Nodup:=by
  rw [zl007,zl007] at hfnd
  exact zl027.1 hfnd.1.2.1
 have gff:g ∉ ff:=fun h=>by
  obtain ⟨j,hj,h'⟩:=T.from_ g h
  exact hr.apart id j (fun e=>h0 (e▸hj)) g hgfp h'
 have dis:∀b∈ff,b ∉ ff1:=fun b hb hb'=>by
  obtain ⟨j,hj,h'⟩:=T.from_ b hb
  exact hr.apart id j (fun e=>h0 (e▸hj)) b (by rw [e2];simp [hb']) h'
 have stab:∀ {vs rvs fs},OW (dX E fp w) w.heap dA vs rvs fs->g ∉ fs->OW (dX E fp w) w'.heap dA vs rvs fs:=fun ho hg =>
  ho.stable (fun b hb=>oth b (fun e=>hg (e▸hb))) (fun b hb=>⟨hb,oth b (fun e=>gnf (e▸hb))⟩) (fun _ _ h=>h)
 have oc:=stab c4 gnd.1
 have ov:=stab T.own gff
 have hlk:es.toList.length=ks.length:=by simpa using congrArg List.length c3.keys
 have hlc:cs.length=es.toList.length:=by simpa using c4.length
 have hvals:=MS (es:=es) (ck:=ck) (k:=kv y) (v:=rv) (dh y ks)
 have hok:=c3.put v3 rv
 rw [hes] at hvals hok
 have hkid:∃m' ks' cs' fs2,Ac m ks cs y r.1=.omap m' ks' cs'/\MapOk m' ks' g pe.1 pe.2/\OW (dX E fp w) w'.heap dA cs' (pe.1.toList.map (·.val)) fs2/\fs2.Nodup/\∀b∈fs2,b∈ff1\/b∈ff:=by
  unfold Ac
  cases hf:dh y ks with
  | some j =>
   rw [hf] at hvals hok
   obtain ⟨fs2,q1,q2,q3⟩:=QK oc (j:=j) (by rw [hlc,hlk];exact mV hf) ov gnd.2 T.nodup dis
   exact ⟨m,ks,cs.set j r.1,fs2,rfl,hok,by rw [hvals];exact q1,q2,q3⟩
  | none =>
   rw [hf] at hvals hok
   refine ⟨m.grow,ks++[y],cs++[r.1],ff1++ff,rfl,hok,by rw [hvals];exact oc.append ov,?_,fun b hb=>zl001.1 hb⟩
   rw [zl007]
   exact ⟨gnd.2,T.nodup,fun x hx y hy e=>by subst e;exact dis x hy hx⟩
 obtain ⟨m',ks',cs',fs2,hmp,hok',o5,n5,s5⟩:=hkid
 rw [hmp]
 have onode:=OW.omap (F:=dX E fp w) (h:=w'.heap) (R:=dA) d1 hok' o5 .nil
 simp only [List.append_nil] at onode
 have slus:qF sl (r.2.1++[.kill id p.length]++[.put id (cu (.omap m' ks' cs') (st id) p)])=(fun t=>(sl t).kill id p.length):=by
  rw [dG,dG,T.sl];rfl
 have stus:∀j,Lk.upd st (r.2.1++[.kill id p.length]++[.put id (cu (.omap m' ks' cs') (st id) p)]) j=if j=fr then .dead else if j=id then cu (.omap m' ks' cs') (st id) p else if j∈ids then .dead else st j:=fun j=>by
  have hidfr:id≠fr:=by omega
  have e:Lk.upd st (r.2.1++[.kill id p.length]++[.put id (cu (.omap m' ks' cs') (st id) p)]) j=if j=id then cu (.omap m' ks' cs') (st id) p else Lk.upd st r.2.1 j:=by
   rw [bQ,bQ];rfl
  rw [e,hup]
  by_cases h1:j=id
  ·simp [h1,hidfr]
  ·by_cases h2:j=fr
   ·subst h2
    have hd:=hr.new j hfr
    simp [h1,hd]
   ·simp [h1,h2]
 have ehp:∀b,b<w.heap.size->(∀id∈ids,b ∉ fp id)->b ∉ g::ff1->w'.heap[b]?=w.heap[b]?:=fun b _ _ hb=>oth b (fun e=>hb (by simp [e]))
 have hsub:∀b,b∈(g::fs2)++[]->(w.heap.size<=b/\b<w'.heap.size)\/(∃id∈ids,b∈fp id)\/b∈g::ff1:=fun b hb=>by
  simp only [List.append_nil,zl008] at hb
  rcases hb with rfl|hb
  ·exact .inr (.inr (by simp))
  ·rcases s5 b hb with h|h
   ·exact .inr (.inr (by simp [h]))
   ·exact .inr (.inl (T.from_ b h))
 have hnd:((g::fs2)++[]).Nodup:=by
  simp only [List.append_nil,zl027]
  exact ⟨fun h=>by rcases s5 g h with h|h;exact gnd.1 h;exact gff h,n5⟩
 have hcell:∀r',r'≠[]->r'.length<=2->(∃v,dH v=some id/\(∀i q,(∃sz o n,v=.ref i q sz o n)\/(∃o,v=.pref i q o)\/v=.mref i q->¬ (i=id/\p.length<q.length))/\((∃i sz o n,v=.ref i (p++r') sz o n)\/(∃i o,v=.pref i (p++r') o)\/∃i,v=.mref i (p++r'))) ->
   kind (ah (.omap m' ks' cs') r')=none\/(kind (ah (.omap m' ks' cs') r')=kind (ah (ah (st id) p) r')/\bW w'.heap (.map (some g)) r'=bW w.heap (.map (some g)) r'):=by
  intro r' hr' _ hv
  obtain ⟨v,hvid,hgv,hvq⟩:=hv
  have hlen:0<r'.length:=List.length_pos_iff.2 hr'
  exfalso
  rcases hvq with ⟨i',sz,o',n,rfl⟩|⟨i',o',rfl⟩|⟨i',rfl⟩<;>simp only [dH,bY] at hvid
  ·exact hgv i' (p++r') (.inl ⟨_,_,_,rfl⟩) ⟨hvid,by simp;omega⟩
  ·exact hgv i' (p++r') (.inr (.inl ⟨_,rfl⟩)) ⟨hvid,by simp;omega⟩
  ·exact hgv i' (p++r') (.inr (.inr rfl)) ⟨hvid,by simp;omega⟩
 obtain ⟨hk1,hk2⟩:=hr.kill id p.length
 obtain ⟨loc',fp',q1,q2,q3,q4⟩:=hk1.mod _ hk2 hfr (fun j hj=>(T.alive j hj).2) h0 hp hnode e1 e2 e4 hnil rep stus (by omega) m2 m3 m4 ehp onode (.inr (by rw [hn0];rfl)) (fun h=>by cases h) (.dead .nil:OW (dX E fp w) w'.heap dA [.dead] [undef] []) (fun _=>rfl) hsub hnd hcell
 exact ⟨loc',fp',by rw [slus];exact q1,.dead .nil⟩
theorem E8 {F:Nat->Prop} {h:Hp} {R:HV->Value->Prop} {cs:List HV}:∀ {rvs:List Value} {fs:List Nat} {ns:List Int},OW F h R cs rvs fs->bytesOf cs=some ns->cs=ns.map (HV.int .u8)/\rvs=ns.map (Value.int .u8):=by
 induction cs with
 | nil=>intro rvs fs ns o hb;simp [bytesOf] at hb;subst hb;exact ⟨rfl,fG o.length.symm⟩
 | cons v cs ih =>
  intro rvs fs ns o hb
  cases rvs with
  | nil=>exact absurd o.length (by simp)
  | cons rv rvs =>
   obtain ⟨f1,f2,_,o1,o2⟩:=o.split1
   cases v<;>(try (simp [bytesOf] at hb;done))
   rename_i k n
   cases k<;>simp [bytesOf] at hb
   obtain ⟨l,hl,rfl⟩:=hb
   obtain ⟨rfl,rfl⟩:=ih o2 hl
   have:=of_int o1
   exact ⟨rfl,by rw [this];rfl⟩
theorem AC (ns:List Int):aZ (ns.map (HV.int .u8))=true:=by simp [aZ,fH]
theorem pG (a0:Option Addr) (c:Nat):(Conv.bytesToString (.slice a0 0 c)).run P w=.ok (.string (NT [])) w:=by
 cases a0 with
 | none=>simp [Conv.bytesToString,NT,go_sem]
 | some a0=>exact run_bytesToString w a0 0 c [] (by simpa using run_loadCells_list (P:=P) (w:=w) a0 [] (by simp))
theorem Bc {g o n c:Nat} {cur:Array Value} {e:TypeId} {fz:Nat×Nat} (hg:w.heap[g]?=some (.cells cur e fz)) {ns:List Int} (hn:ns.length=n) (hc:ns.map (Value.int .u8)=(cur.toList.drop o).take n) :
  (Conv.bytesToString (.slice (some ⟨g,o,none⟩) n c)).run P w=.ok (.string (NT ns)) w:=by
 refine run_bytesToString w ⟨g,o,none⟩ n c ns ?_
 have h1:=cells_at (o:=o) (off:=0) (m:=n) hg (l:=ns.map (Value.int .u8)) (by simpa using hc)
 have h2:=run_loadCells_list (P:=P) (w:=w) ⟨g,o+0,none⟩ (ns.map (Value.int .u8)) h1
 simpa [hn] using h2
theorem FM (hr:Rel E N sl st loc fp a w) {s d e:TypeId} (hs:P.underlying s=some (.slice e)) (he:P.underlying e=some (.int .u8)) (hd:P.underlying d=some .string) {x:HV} {rx:Value} (hx:V E N st loc fp w x rx) (hvc:(ae st fr (.tostr x)).2.2) :
  ∃r,(convert s d rx).run P w=.ok r w/\V E N st loc fp w (ae st fr (.tostr x)).1 r/\(ae st fr (.tostr x)).2.1=[]:=by
 have cv:∀ (a0:Option Addr) n c,(convert s d (.slice a0 n c)).run P w=(Conv.bytesToString (.slice a0 n c)).run P w:=fun a0 n c=>run_convert_bytes_string w s d e a0 n c hs he hd
 cases x<;>simp only [ae] at hvc ⊢<;>(first|exact hvc.elim|skip)
 ·obtain rfl:=fV hx
  exact ⟨_,by rw [cv,pG],.str .nil,trivial⟩
 ·rename_i n cs
  obtain ⟨h1,h2⟩:=hvc
  unfold strOf at *
  cases hb:bytesOf cs with
  | none=>rw [hb] at h1;exact h1.elim
  | some ns =>
   simp only
   rcases xM hx with ⟨rfl,rfl,a',c,rfl⟩|⟨g,off,cap,cur,e',fz,rfl,q1,q2,q3,q4⟩
   ·simp [bytesOf] at hb
    subst hb
    exact ⟨_,by rw [cv,pG],.str .nil,trivial⟩
   ·obtain ⟨rfl,hv⟩:=E8 q4 hb
    exact ⟨_,by rw [cv,Bc q2 (by simpa using h2) (by rw [<- h2];exact hv.symm)],.str .nil,trivial⟩
 ·rename_i id p sz off n
  generalize hn0:ah (st id) p=nd at *
  cases nd<;>simp only at hvc ⊢<;>(first|exact hvc.elim|skip)
  rename_i sz2 m' cs
  obtain ⟨h1,rfl,h2⟩:=hvc
  unfold strOf at *
  cases hb:bytesOf (win cs off n) with
  | none=>rw [hb] at h1;exact h1.elim
  | some ns =>
   simp only
   have hnode:isNode (ah (st id) p):=by rw [hn0];trivial
   obtain ⟨hid,hp,⟨a',c,rfl,hc,h0⟩,h5,h4⟩:=kS hx
   obtain ⟨rfl,a2,cap,b1,b2⟩:=h4 _ _ _ hn0
   obtain ⟨rv',f1,f',f2,e1,e2,e3,e4,hnil,rep⟩:=(hr.tree id (bV hnode)).focus hp hnode
   rw [e1] at b1
   cases b1
   rw [hn0] at e3
   rcases b2 with ⟨rfl,a3,b3⟩|⟨g,o,c',rfl,b3,b4,b5,b6⟩
   ·cases b3
    have hw:win cs off 0=[]:=fG (by have:=iW cs off 0;omega)
    rw [hw] at hb
    simp [bytesOf] at hb
    subst hb
    exact ⟨_,by rw [cv,pG],.str .nil,trivial⟩
   ·cases b3
    cases e3 with
    | leaf _ h2=>exact absurd rfl (h2 _ _ _)
    | osl0 =>
     obtain rfl:n=0:=by simp at h2;omega
     have hw:win ([]:List HV) off 0=[]:=fG (by have:=iW [] off 0;omega)
     rw [hw] at hb
     simp [bytesOf] at hb
     subst hb
     exact ⟨_,by rw [cv,pG],.str .nil,trivial⟩
    | @osl _ _ _ _ _ _ _ cur e' rvs f3 _ _ _ g1 g2 g3 g4 g5 g6 g7 g8 =>
     have hfl:aZ (win cs off n)=true:=by
      have:win cs off n=ns.map (HV.int .u8):=by
       obtain ⟨rvs',hh⟩:∃ns',win cs off n=ns'.map (HV.int .u8)/\ns'=ns:=by
        have:∀ (l:List HV) (ns:List Int),bytesOf l=some ns->l=ns.map (HV.int .u8):=by
         intro l
         induction l with
         | nil=>intro ns h;simp [bytesOf] at h;subst h;rfl
         | cons v l ih =>
          intro ns h
          cases v<;>(try (simp [bytesOf] at h;done))
          rename_i k q
          cases k<;>simp [bytesOf] at h
          obtain ⟨l',hl,rfl⟩:=h
          rw [ih l' hl];rfl
        exact ⟨ns,this _ _ hb,rfl⟩
       rw [hh.1,hh.2]
      rw [this];exact AC ns
     have hw:=g7.winFlat off n hfl
     obtain ⟨hwe,hv⟩:=E8 hw hb
     have hlen:ns.length=n:=by
      have h3:=congrArg List.length hwe
      rw [fK] at h3
      rw [<- h3]
      unfold win
      split
      ·rename_i hc;exact hc.2.symm
      ·simp;omega
     have hcells:ns.map (Value.int .u8)=(cur.toList.drop (o+off)).take n:=by
      rw [<- hv,g3,List.drop_take,BM,nR]
      congr 1
      omega
     exact ⟨_,by rw [cv,Bc g1 hlen hcells],.str .nil,trivial⟩
end
end Go.HL
end
section
namespace Go.HL
open Go.RowKit
def N8 (P:Program) (t:TypeId):Nat :=
 match P.underlying t with
 | some (.slice e)=>((P.info? e).map (·.size)).getD 0
 | _=>0
def FC:Operand->Operand->Bool
 | .tmp i,.tmp j=>i==j
 | .const (.int .i64 n),.const (.int .i64 m)=>n==m
 | _,_=>false
theorem GU {a:Act} {x y:Operand} (h:FC x y=true):a.eval x=a.eval y:=by
 unfold FC at h
 split at h
 ·simp at h;subst h;rfl
 ·simp at h;subst h;rfl
 ·cases h
def OC (P:Program) (e:TypeId) (l:List HV):List HV:=match l,P.underlying e with
 | [.nils],some (.slice e2)=>match P.info? e2 with
  | some i=>[.osl i.size 0 []]
  | none=>[.nils]
 | l,_=>l
theorem Ny {F:Nat->Prop} {h:Hp} {P:Program} {e:TypeId} {l:List HV} {rvs:List Value} (o:OW F h dA l rvs []):OW F h dA (OC P e l) rvs []:=by
 unfold OC
 split
 ·split
  ·generalize hf:([]:List Nat)=fs at o
   cases o with
   | nils o=>subst hf;exact .osl0 o
   | leaf _ _ _ _ _ _ hr _=>exact hr.elim
  ·exact o
 ·exact o
theorem Jn {P:Program} {w:World} {fr:Nat} {F:Nat->Prop} {h:Hp} {R:HV->Value->Prop} {ne:Bool} {t:TypeId} {x y:Operand} {u v:HV} {ru rv:Value} (hu:OW F h R [u] [ru] []) (hv:OW F h R [v] [rv] [])
  (hs:eqShape P t=true) {L:Lk} (hvc:(ae L fr (.aeq ne (P.fieldsOf t).size u v)).2.2) :
  ∃r,(do eqGuard (if ne then .neq else .eql) t x y ru rv;binOp (if ne then .neq else .eql) t ru rv:Sem Value).run P w=.ok r w/\OW F h R [(ae L fr (.aeq ne (P.fieldsOf t).size u v)).1] [r] []:=by
 cases u<;>cases v<;>simp only [ae] at hvc<;>(first|exact hvc.elim|skip)
 rename_i cs cs'
 obtain ⟨l1,l2,i1,i2⟩:=hvc
 obtain ⟨ra,rfl,oa⟩:=zq hu
 obtain ⟨rb,rfl,ob⟩:=zq hv
 obtain ⟨xs,rfl,rfl⟩:=uK oa i1
 obtain ⟨ys,rfl,rfl⟩:=uK ob i2
 simp only [fK] at l1 l2
 simp only [eqShape,aG,uu] at hs
 obtain ⟨⟨⟨h1,h2⟩,h3⟩,h4⟩:=hs
 have ht:P.underlying t=some (.struct (P.fieldsOf t)):=by
  unfold Program.fieldsOf
  cases hq:P.underlying t with
  | none=>rw [hq] at h1;cases h1
  | some dd=>rw [hq] at h1;cases dd<;>simp only [Bool.false_eq_true] at h1;rfl
 have he:(Op.equalIn 10000 t (.agg (xs.map (Value.int .i64)).toArray) (.agg (ys.map (Value.int .i64)).toArray)).run P w=.ok (mf (xs.map (HV.int .i64)) (ys.map (HV.int .i64))) w:=by
  rw [run_equalIn_struct w 9999 t _ _ ht h2]
  have:=ug (P:=P) (w:=w) (d:=9998) (xs:=xs) (ys:=ys) (P.fieldsOf t).toList 0 h4 (by simp [l1]) (by omega)
  simpa using this
 cases ne
 ·refine ⟨.bool (mf (xs.map (HV.int .i64)) (ys.map (HV.int .i64))),?_,by simpa [ae] using OW.bool .nil⟩
  simp only [Bool.false_eq_true,if_false,Sem.run_bind,run_eqGuard_agg w .eql t x y _ _ h3,Result.andThen_ok,run_eql_struct,he]
 ·refine ⟨.bool (!mf (xs.map (HV.int .i64)) (ys.map (HV.int .i64))),?_,by simpa [ae] using OW.bool .nil⟩
  simp only [if_true,Sem.run_bind,run_eqGuard_agg w .neq t x y _ _ h3,Result.andThen_ok,run_neq_struct,he]
def PU:HX->Bool
 | .c (.int .i64 n)=>n==0
 | _=>false
def yl (ne:Bool) (x:HX):HX->HOp HX
 | .c .nils=>.isn ne x
 | _=>.bad
def qx (ne:Bool) (x:HX):HX->HOp HX
 | .c .nilm=>.mnil ne x
 | _=>.bad
def Ap (P:Program) (t:TypeId):Option (KK×TypeId) :=
 match P.underlying t with
 | some (.map k e)=>(Hm P k).map fun kk=>(kk,e)
 | _=>none
def aC (P:Program) (o:Oper):HOp HX :=
 match o.op with
 | .move x=>.mv (N8 P o.type) (dw x)
 | .assign x=>.mv (N8 P o.type) (dw x)
 | .pick c a b=>.pick (dw c) (dw a) (dw b)
 | .binOp op t x y _ =>
  match op with
  | .eql=>match P.underlying t with
   | some .bool=>.beq false (dw x) (dw y)
   | some (.struct _)=>if eqShape P t then .aeq false (P.fieldsOf t).size (dw x) (dw y) else .bad
   | some (.int _)=>.bin .eql (dw x) (dw y)
   | some (.slice _)=>yl false (dw x) (dw y)
   | some (.map _ _)=>qx false (dw x) (dw y)
   | _=>.bad
  | .neq=>match P.underlying t with
   | some .bool=>.beq true (dw x) (dw y)
   | some (.struct _)=>if eqShape P t then .aeq true (P.fieldsOf t).size (dw x) (dw y) else .bad
   | some (.int _)=>.bin .neq (dw x) (dw y)
   | some (.slice _)=>yl true (dw x) (dw y)
   | some (.map _ _)=>qx true (dw x) (dw y)
   | _=>.bad
  | op=>.bin op (dw x) (dw y)
 | .unOp op _ x=>.un op (dw x)
 | .convert s d x=>match P.underlying s,P.underlying d with
  | some _,some (.int k)=>.conv k (dw x)
  | some (.slice e),some .string=>match P.underlying e with
   | some (.int .u8)=>.tostr (dw x)
   | _=>.bad
  | _,_=>.bad
 | .makeMap t none=>match Ap P t with
  | some (kk,_)=>.mkmap kk
  | none=>.bad
 | .lookup t x i ok=>match Ap P t with
  | some (kk,e)=>match P.info? e with
   | some inf=>match inf.zero with
    | some z=>.mlook ok kk (ofVal z) (dw x) (dw i)
    | none=>.bad
   | none=>.bad
  | none=>.bad
 | .mapUpdate t m k x=>match Ap P t with
  | some (kk,_)=>.mset kk (dw m) (dw k) (dw x)
  | none=>.bad
 | .insert t m k x=>match Ap P t with
  | some (kk,_)=>.mset kk (dw m) (dw k) (dw x)
  | none=>.bad
 | .range t x=>match P.underlying t with
  | some (.map _ _)=>.mrng (dw x)
  | _=>.bad
 | .next it false=>.mnxt (dw it)
 | .entry it=>.ment (dw it)
 | .box t x=>match P.info? t with
  | some i=>.newv i.size (dw x)
  | none=>.bad
 | .alloc t=>match P.info? t with
  | some i=>match i.zero with
   | some z=>.newz (z.cells.toList.map ofVal1)
   | none=>.bad
  | none=>.bad
 | .build t parts=>match P.info? t,P.underlying t with
  | some it,some (.struct fs)=>match it.zero,fs.toList.mapM (fun f=>(P.info? f.type).map fun i=>(f.offset,i.size)) with
   | some z,some places=>match parts.toList.mapM (fun p=>(places[p.1]?).map fun q=>(q.1,q.2,dw p.2)) with
    | some qs=>.bld (z.cells.toList.map ofVal1) qs
    | none=>.bad
   | _,_=>.bad
  | _,_=>.bad
 | .buildSlice t n parts=>match P.underlying t with
  | some (.slice e)=>match P.info? e with
   | some i=>if i.zero.isSome/\0<i.size/\n*i.size<=16777216/\parts.toList.map (·.1)=List.range parts.toList.length then .bsl i.size n (parts.toList.map fun p=>dw p.2) else .bad
   | none=>.bad
  | _=>.bad
 | .load t x=>match P.underlying t,P.info? t with
  | some d,some i=>.load (gU d) i.size (dw x)
  | _,_=>.bad
 | .store t x y=>match P.info? t with
  | some i=>.store (!i.hasPointers) i.size (dw x) (dw y)
  | none=>.bad
 | .nilCheck x=>.nilck (dw x)
 | .makeFunc (.func f) first cap=>if first.size=0 then .mkfn f (cap.toList.map dw) else .bad
 | .makeSlice t l c=>match P.underlying t with
  | some (.slice e)=>match P.info? e with
   | some i=>match i.zero with
    | some z=>if z.cells.size=i.size/\0<i.size/\FC l c=true then .mksl i.size i.bytes (OC P e (z.cells.toList.map ofVal1)) (dw l) else .bad
    | none=>.bad
   | none=>.bad
  | _=>.bad
 | .slice t x lo hi none=>match P.underlying t with
  | some (.slice e)=>match P.info? e with
   | some i=>.slc i.size (dw x) (lo.map dw) (hi.map dw)
   | none=>.bad
  | _=>.bad
 | .slice t x none (some h) (some m)=>match P.underlying t with
  | some (.slice e)=>match P.info? e with
   | some i=>if PU (dw h)&&PU (dw m) then .slz i.size (dw x) else .bad
   | none=>.bad
  | _=>.bad
 | .fieldAddr t x k=>match P.underlying t with
  | some (.struct fs)=>match fs[k]? with
   | some f=>match P.info? f.type with
    | some i=>if i.size≠0 then .faddr f.offset (dw x) else .bad
    | none=>.bad
   | none=>.bad
  | _=>.bad
 | .field t x k=>match P.underlying t with
  | some (.struct fs)=>match fs[k]? with
   | some f=>match P.underlying f.type,P.info? f.type with
    | some d,some i=>.fld (gU d) i.size f.offset (dw x)
    | _,_=>.bad
   | none=>.bad
  | _=>.bad
 | .indexAddr t x i=>match P.underlying t with
  | some (.slice e)=>match P.info? e with
   | some inf=>.iaddr inf.size (dw x) (dw i)
   | none=>.bad
  | _=>.bad
 | .extract x i=>.ext (dw x) i
 | .call c =>
  match c.callee with
  | .builtin .len=>match c.args.toList,c.argTypes.toList with
   | [x],[t]=>match P.underlying t with
    | some (.slice _)=>.len (dw x)
    | some (.map _ _)=>.mlen (dw x)
    | _=>.bad
   | _,_=>.bad
  | .builtin .append=>match c.args.toList,c.argTypes.toList with
   | [s,x],[t,tx]=>match P.underlying t,P.underlying tx with
    | some (.slice e),some (.slice _)=>match P.info? e with
     | some i=>match i.zero with
      | some z=>if z.cells.size=i.size then .app (!i.hasPointers) i.size i.bytes (dw s) (dw x) else .bad
      | none=>.bad
     | none=>.bad
    | some (.slice e),some (.int _)=>match P.info? e with
     | some i=>match i.zero with
      | some z=>if z.cells.size=i.size/\0<i.size then .bi .append [i.size,i.bytes] (OC P e (z.cells.toList.map ofVal1)) [dw s,dw x] else .bad
      | none=>.bad
     | none=>.bad
    | _,_=>.bad
   | _,_=>.bad
  | .builtin .cap=>match c.args.toList,c.argTypes.toList with
   | [x],[t]=>match P.underlying t with
    | some (.slice _)=>.bi .cap [] [] [dw x]
    | _=>.bad
   | _,_=>.bad
  | .builtin .copy=>match c.args.toList,c.argTypes.toList with
   | [x,y],[t,tx]=>match P.underlying t,P.underlying tx with
    | some (.slice e),some (.slice _)=>match P.info? e with
     | some i=>if i.size=1 then .cpy (dw x) (dw y) else .bad
     | none=>.bad
    | _,_=>.bad
   | _,_=>.bad
  | .builtin .min=>match c.args.toList with
   | [x,y]=>.mm false (dw x) (dw y)
   | _=>.bad
  | .builtin .max=>match c.args.toList with
   | [x,y]=>.mm true (dw x) (dw y)
   | _=>.bad
  | .value (.func f)=>.call f (c.args.toList.map dw)
  | .value (.tmp t)=>.callv (.t t) (c.args.toList.map dw)
  | _=>.bad
 | _=>.bad
def HOp.isCall {α:Type}:HOp α->Bool
 | .call _ _=>true|.callv _ _=>true
 | .mv ..=>false|.pick ..=>false|.bin ..=>false|.beq ..=>false|.aeq ..=>false|.un ..=>false|.conv ..=>false|.newv ..=>false|.newz _=>false|.bld ..=>false|.bsl ..=>false
 | .load ..=>false|.store ..=>false|.nilck _=>false|.mkfn ..=>false|.mksl ..=>false|.slc ..=>false|.faddr ..=>false|.fld ..=>false|.iaddr ..=>false|.ext ..=>false
 | .len _=>false|.app ..=>false|.mm ..=>false|.cpy ..=>false|.slz ..=>false|.isn ..=>false|.bi ..=>false|.bad=>false
 | .mnil ..=>false|.mkmap ..=>false|.mlook ..=>false|.mset ..=>false|.mlen ..=>false|.mrng ..=>false|.mnxt ..=>false|.ment ..=>false|.tostr ..=>false
section
variable {P:Program} {E:Fr} {N fr:Nat} {sl st:Lk} {loc:Nat->Value} {fp:Nat->List Nat} {a:Act} {w:World}
theorem bZ (hr:Rel E N sl st loc fp a w) (hfr:N<=fr) {m:Sem Value} {res:HV×List dJ×Prop} (h:∃r,m.run P w=.ok r w/\V E N st loc fp w res.1 r/\res.2.1=[]) :
  ∃rv w',Does P (do pure (.value (<- m)):Sem Next) w rv w'/\After E (fr+1) sl st res.2.1 res.1 rv a w':=by
 obtain ⟨r,h1,h2,h3⟩:=h
 exact ⟨r,w,.inl (by simp [h1]),by rw [h3];exact hr.pure (by omega) h2⟩
theorem lC {m:Sem Value} {res:HV×List dJ×Prop} (h:∃r w',m.run P w=.ok r w'/\After E (fr+1) sl st res.2.1 res.1 r a w') :
  ∃rv w',Does P (do pure (.value (<- m)):Sem Next) w rv w'/\After E (fr+1) sl st res.2.1 res.1 rv a w':=by
 obtain ⟨r,w',h1,h2⟩:=h
 exact ⟨r,w',.inl (by simp [h1]),h2⟩
theorem Qk (hr:Rel E N sl st loc fp a w) (hfr:N<=fr) {t e:TypeId} {i:TypeInfo} {n:Nat} {parts:Array (Nat×Operand)} (ht:P.underlying t=some (.slice e)) (hi:P.info? e=some i)
  (hc:i.zero.isSome/\0<i.size/\n*i.size<=16777216/\parts.toList.map (·.1)=List.range parts.toList.length) (hvc:(ae st fr ((HOp.bsl i.size n (parts.toList.map fun p=>dw p.2)).map (bT sl))).2.2) :
  ∃r w',(Instr.buildSlice t n (parts.map fun (i,x)=>(i,a.eval x))).run P w=.ok r w'/\After E (fr+1) sl st (ae st fr ((HOp.bsl i.size n (parts.toList.map fun p=>dw p.2)).map (bT sl))).2.1 (ae st fr ((HOp.bsl i.size n (parts.toList.map fun p=>dw p.2)).map (bT sl))).1 r a w':=by
 obtain ⟨z,hz⟩:=Option.isSome_iff_exists.1 hc.1
 have hv:=hr.vals (parts.toList.map (·.2))
 simp only [iG] at hv
 have e1:(parts.toList.map fun p=>dw p.2).map (bT sl)=parts.toList.map ((fun x=>bT sl (dw x)) ∘ (·.2)):=by rw [iG];rfl
 have e2:(parts.map fun (i,x)=>(i,a.eval x)).toList=((parts.toList.map (a.eval ∘ (·.2))).zipIdx 0).map fun x=>(x.2,x.1):=by
  rw [Array.toList_map]
  apply o7
  intro j
  have h4:=congrArg (fun l:List Nat=>l[j]?) hc.2.2.2
  simp only [iT,List.getElem?_range,List.getElem?_zipIdx] at h4 ⊢
  cases hj:parts.toList[j]? with
  | none=>simp
  | some p =>
   rw [hj] at h4
   have hlt:=(zl030.1 hj).1
   simp only [iq] at h4
   rw [dS (by simpa using hlt),EF] at h4
   simp only [bY] at h4
   simp [h4]
 simp only [HOp.map,e1] at hvc ⊢
 exact JW (P:=P) hr hfr ht hi hz hc.2.1 hc.2.2.1 e2 hv hvc
theorem Qw (hr:Rel E N sl st loc fp a w) {places:List (Nat×Nat)} {parts:Array (Nat×Operand)} {qs:List (Nat×Nat×HX)} (hq:parts.toList.mapM (fun p=>(places[p.1]?).map fun q=>(q.1,q.2,dw p.2))=some qs) :
  Ic (fun p q=>places[p.1]?=some (q.1,q.2.1)/\V E N st loc fp w q.2.2 p.2) (parts.map fun (i,x)=>(i,a.eval x)).toList (qs.map fun p=>(p.1,p.2.1,bT sl p.2.2)):=by
 rw [Array.toList_map]
 generalize parts.toList=ps at *
 induction ps generalizing qs with
 | nil=>simp at hq;subst hq;exact .nil
 | cons p ps ih =>
  simp only [List.mapM_cons,Option.bind_eq_bind,Option.pure_def] at hq
  cases h1:places[p.1]? with
  | none=>simp [h1] at hq
  | some q =>
   cases h2:ps.mapM (fun p=>(places[p.1]?).map fun q=>(q.1,q.2,dw p.2)) with
   | none=>simp [h1,h2] at hq
   | some rest =>
    simp [h1,h2] at hq
    subst hq
    exact .cons ⟨h1,hr.val p.2⟩ (ih h2)
theorem Ju {dst type pos after guard} {args:Array Operand} {ts:Array TypeId} (h:(ae st fr ((aC P ⟨dst,.call ⟨.builtin .cap,args,ts⟩,type,pos,after,guard⟩).map (bT sl))).2.2):False:=by
 simp only [aC] at h
 repeat' split at h
 all_goals exact h
theorem JC {dst type pos after guard} {s x:Operand} {t tx e:TypeId} {k:IntKind} (ht:P.underlying t=some (.slice e)) (htx:P.underlying tx=some (.int k)) (h:(ae st fr ((aC P ⟨dst,.call ⟨.builtin .append,⟨[s,x]⟩,⟨[t,tx]⟩⟩,type,pos,after,guard⟩).map (bT sl))).2.2):False:=by
 simp only [aC,ht,htx] at h
 repeat' split at h
 all_goals exact h
theorem PD (hr:Rel E N sl st loc fp a w) (hfr:N<=fr) {dst type pos after guard} {c:Call} (hnc:(aC P ⟨dst,.call c,type,pos,after,guard⟩).isCall=false) (hvc:(ae st fr ((aC P ⟨dst,.call c,type,pos,after,guard⟩).map (bT sl))).2.2) :
  ∃rv w',Does P (execOp a.eval ⟨dst,.call c,type,pos,after,guard⟩) w rv w'/\After E (fr+1) sl st (ae st fr ((aC P ⟨dst,.call c,type,pos,after,guard⟩).map (bT sl))).2.1 (ae st fr ((aC P ⟨dst,.call c,type,pos,after,guard⟩).map (bT sl))).1 rv a w':=by
 obtain ⟨callee,args,argTypes⟩:=c
 have B:∀ {α:Prop},(ae st fr ((HOp.bad:HOp HX).map (bT sl))).2.2->α:=fun h=>h.elim
 obtain ⟨args⟩:=args
 obtain ⟨argTypes⟩:=argTypes
 cases callee with
 | invoke=>exact B hvc
 | value f =>
  cases f with
  | tmp=>simp [aC,HOp.isCall] at hnc
  | func=>simp [aC,HOp.isCall] at hnc
  | const=>exact B hvc
  | global=>exact B hvc
 | builtin b =>
  cases b<;>first|exact B hvc|skip
  case append =>
   match args,argTypes with
   | [s,x],[t,tx] =>
    cases ht:P.underlying t with
    | none=>exact B (by simpa [aC,ht] using hvc)
    | some d =>
     cases d<;>first|exact B (by simpa [aC,ht] using hvc)|skip
     rename_i e
     cases htx:P.underlying tx with
     | none=>exact B (by simpa [aC,ht,htx] using hvc)
     | some dx =>
      cases dx<;>first|exact B (by simpa [aC,ht,htx] using hvc)|exact (JC ht htx hvc).elim|skip
      rename_i e'
      cases hi:P.info? e with
      | none=>exact B (by simpa [aC,ht,htx,hi] using hvc)
      | some i =>
       cases hz:i.zero with
       | none=>exact B (by simpa [aC,ht,htx,hi,hz] using hvc)
       | some z =>
        by_cases hc:z.cells.size=i.size
        ·simp only [aC,ht,htx,hi,hz,if_pos hc] at hvc ⊢
         have:=lC (P:=P) (Jw (P:=P) (ty:=type) hr hfr ht htx hi hz hc (hr.val s) (hr.val x) hvc)
         obtain ⟨rv,w',h1,h2⟩:=this
         refine ⟨rv,w',?_,h2⟩
         simpa [execOp,resolve,invoke,builtin] using h1
        ·exact B (by simpa [aC,ht,htx,hi,hz,hc] using hvc)
   | [],_=>exact B hvc
   | [_],_=>exact B hvc
   | _::_::_::_,_=>exact B hvc
   | [_,_],[]=>exact B hvc
   | [_,_],[_]=>exact B hvc
   | [_,_],_::_::_::_=>exact B hvc
  case cap=>exact (Ju hvc).elim
  case copy =>
   match args,argTypes with
   | [s,x],[t,tx] =>
    cases ht:P.underlying t with
    | none=>exact B (by simpa [aC,ht] using hvc)
    | some d =>
     cases d<;>first|exact B (by simpa [aC,ht] using hvc)|skip
     rename_i e
     cases htx:P.underlying tx with
     | none=>exact B (by simpa [aC,ht,htx] using hvc)
     | some dx =>
      cases dx<;>first|exact B (by simpa [aC,ht,htx] using hvc)|skip
      rename_i e'
      cases hi:P.info? e with
      | none=>exact B (by simpa [aC,ht,htx,hi] using hvc)
      | some i =>
       by_cases hc:i.size=1
       ·simp only [aC,ht,htx,hi,if_pos hc] at hvc ⊢
        have:=lC (P:=P) (Ld (P:=P) (ty:=type) hr hfr ht htx hi hc (hr.val s) (hr.val x) hvc)
        obtain ⟨rv,w',h1,h2⟩:=this
        refine ⟨rv,w',?_,h2⟩
        simpa [execOp,resolve,invoke,builtin] using h1
       ·exact B (by simpa [aC,ht,htx,hi,hc] using hvc)
   | [],_=>exact B hvc
   | [_],_=>exact B hvc
   | _::_::_::_,_=>exact B hvc
   | [_,_],[]=>exact B hvc
   | [_,_],[_]=>exact B hvc
   | [_,_],_::_::_::_=>exact B hvc
  case len =>
   match args,argTypes with
   | [x],[t] =>
    cases ht:P.underlying t with
    | none=>exact B (by simpa [aC,ht] using hvc)
    | some d =>
     cases d<;>first|exact B (by simpa [aC,ht] using hvc)|skip
     ·simp only [aC,ht] at hvc ⊢
      obtain ⟨rv,w',h1,h2⟩:=bZ hr hfr (JV (P:=P) (ty:=type) ht (hr.val x) hvc)
      refine ⟨rv,w',?_,h2⟩
      simpa [execOp,resolve,invoke,builtin] using h1
     ·simp only [aC,ht] at hvc ⊢
      obtain ⟨rv,w',h1,h2⟩:=bZ hr hfr (Ig (P:=P) (ty:=type) hr ht (hr.val x) hvc)
      refine ⟨rv,w',?_,h2⟩
      simpa [execOp,resolve,invoke,builtin] using h1
   | [],_=>exact B hvc
   | _::_::_,_=>exact B hvc
   | [_],[]=>exact B hvc
   | [_],_::_::_=>exact B hvc
  case min =>
   match args with
   | [x,y] =>
    obtain ⟨rv,w',h1,h2⟩:=bZ hr hfr (FP (P:=P) (mx:=false) (ts:=argTypes.toArray) (ty:=type) (hr.val x) (hr.val y) hvc)
    refine ⟨rv,w',?_,h2⟩
    simpa [execOp,resolve,invoke,builtin] using h1
   | []=>exact B hvc
   | [_]=>exact B hvc
   | _::_::_::_=>exact B hvc
  case max =>
   match args with
   | [x,y] =>
    obtain ⟨rv,w',h1,h2⟩:=bZ hr hfr (FP (P:=P) (mx:=true) (ts:=argTypes.toArray) (ty:=type) (hr.val x) (hr.val y) hvc)
    refine ⟨rv,w',?_,h2⟩
    simpa [execOp,resolve,invoke,builtin] using h1
   | []=>exact B hvc
   | [_]=>exact B hvc
   | _::_::_::_=>exact B hvc
theorem FO (hr:Rel E N sl st loc fp a w) {x:Operand} (h:PU (dw x)=true):a.eval x=.int .i64 0:=by
 have hv:=hr.val x
 generalize dw x=y at h hv
 cases y with
 | t i=>cases h
 | c v =>
  cases v<;>simp only [PU] at h<;>(first|cases h|skip)
  rename_i k n
  cases k<;>simp only [PU] at h<;>(first|cases h|skip)
  simp only [beq_iff_eq] at h
  subst h
  exact of_int hv
theorem KC {ne:Bool} {x y:HX} {u:HOp HX} (h:yl ne x y=u) (hu:u≠.bad):y=.c .nils/\u=.isn ne x:=by
 unfold yl at h
 split at h
 ·exact ⟨rfl,h.symm⟩
 ·exact absurd h.symm hu
theorem AP {L:Lk} {fr:Nat} {kk:KK} {x k v:HX}:(ae L fr ((HOp.mset kk x k v).map (bT sl))).1=.dead:=by
 simp only [HOp.map,ae]
 split
 ·split<;>rfl
 ·rfl
theorem Hz {ne:Bool} {x y:HX} {u:HOp HX} (h:qx ne x y=u) (hu:u≠.bad):y=.c .nilm/\u=.mnil ne x:=by
 unfold qx at h
 split at h
 ·exact ⟨rfl,h.symm⟩
 ·exact absurd h.symm hu
theorem wS {t:TypeId} {kk:KK} {e:TypeId} (h:Ap P t=some (kk,e)):∃k,P.underlying t=some (.map k e)/\Hm P k=some kk:=by
 unfold Ap at h
 split at h
 ·rename_i k e' hu
  cases hk:Hm P k with
  | none=>rw [hk] at h;cases h
  | some q =>
   rw [hk] at h
   simp only [iq,bY,kD] at h
   obtain ⟨rfl,rfl⟩:=h
   exact ⟨k,hu,hk⟩
 ·cases h
theorem FW (hr:Rel E N sl st loc fp a w) (hfr:N<=fr) (o:Oper) (hnc:(aC P o).isCall=false) (hvc:(ae st fr ((aC P o).map (bT sl))).2.2) :
  ∃rv w',Does P (execOp a.eval o) w rv w'/\After E (fr+1) sl st (ae st fr ((aC P o).map (bT sl))).2.1 (ae st fr ((aC P o).map (bT sl))).1 rv a w':=by
 obtain ⟨dst,op,type,pos,after,guard⟩:=o
 have B:∀ {α:Prop},(ae st fr ((HOp.bad:HOp HX).map (bT sl))).2.2->α:=fun h=>h.elim
 cases op
 case move x=>exact ⟨_,w,.inl rfl,Gj hr hfr (N8 P type) x⟩
 case assign x=>exact ⟨_,w,.inl rfl,Gj hr hfr (N8 P type) x⟩
 case pick c x y =>
  obtain ⟨r,h1,h2,h3⟩:=Hy (P:=P) (hr.val c) (hr.val x) (hr.val y) hvc
  exact ⟨r,w,.inl h1,by
   have:=hr.pure (M:=fr+1) (by omega) h2
   simp only [aC,HOp.map]
   rw [h3];exact this⟩
 case binOp op t x y yt =>
  have gen:aC P ⟨dst,.binOp op t x y yt,type,pos,after,guard⟩=.bin op (dw x) (dw y)->∃rv w',Does P (execOp a.eval ⟨dst,.binOp op t x y yt,type,pos,after,guard⟩) w rv w'/\After E (fr+1) sl st (ae st fr ((aC P ⟨dst,.binOp op t x y yt,type,pos,after,guard⟩).map (bT sl))).2.1 (ae st fr ((aC P ⟨dst,.binOp op t x y yt,type,pos,after,guard⟩).map (bT sl))).1 rv a w':=by
   intro e
   rw [e] at hvc ⊢
   obtain ⟨r,h1,h2⟩:=Hg (P:=P) (w:=w) (t:=t) (x:=x) (y:=y) (hr.val x) (hr.val y) hvc
   exact bZ hr hfr ⟨r,h1,h2,rfl⟩
  have genb:∀ne,op=(if ne then .neq else .eql)->aC P ⟨dst,.binOp op t x y yt,type,pos,after,guard⟩=.beq ne (dw x) (dw y)->P.underlying t=some .bool->∃rv w',Does P (execOp a.eval ⟨dst,.binOp op t x y yt,type,pos,after,guard⟩) w rv w'/\After E (fr+1) sl st (ae st fr ((aC P ⟨dst,.binOp op t x y yt,type,pos,after,guard⟩).map (bT sl))).2.1 (ae st fr ((aC P ⟨dst,.binOp op t x y yt,type,pos,after,guard⟩).map (bT sl))).1 rv a w':=by
   intro ne e0 e hu
   rw [e] at hvc ⊢
   obtain ⟨r,h1,h2⟩:=JQ (P:=P) (w:=w) (t:=t) (x:=x) (y:=y) (hr.val x) (hr.val y) hu hvc
   subst e0
   refine bZ hr hfr ⟨r,h1,h2,?_⟩
   simp only [HOp.map] at hvc ⊢
   generalize bT sl (dw x)=u at *
   generalize bT sl (dw y)=v at *
   cases u<;>cases v<;>simp only [ae] at hvc ⊢
  have gena:∀ne,op=(if ne then .neq else .eql)->eqShape P t=true->aC P ⟨dst,.binOp op t x y yt,type,pos,after,guard⟩=.aeq ne (P.fieldsOf t).size (dw x) (dw y)->∃rv w',Does P (execOp a.eval ⟨dst,.binOp op t x y yt,type,pos,after,guard⟩) w rv w'/\After E (fr+1) sl st (ae st fr ((aC P ⟨dst,.binOp op t x y yt,type,pos,after,guard⟩).map (bT sl))).2.1 (ae st fr ((aC P ⟨dst,.binOp op t x y yt,type,pos,after,guard⟩).map (bT sl))).1 rv a w':=by
   intro ne e0 hsh e
   rw [e] at hvc ⊢
   obtain ⟨r,h1,h2⟩:=Jn (P:=P) (w:=w) (t:=t) (x:=x) (y:=y) (hr.val x) (hr.val y) hsh hvc
   subst e0
   refine bZ hr hfr ⟨r,h1,h2,?_⟩
   simp only [HOp.map] at hvc ⊢
   generalize bT sl (dw x)=u at *
   generalize bT sl (dw y)=v at *
   cases u<;>cases v<;>simp only [ae] at hvc ⊢
  have geni:∀ne e,op=(if ne then .neq else .eql)->P.underlying t=some (.slice e)->aC P ⟨dst,.binOp op t x y yt,type,pos,after,guard⟩=yl ne (dw x) (dw y)->∃rv w',Does P (execOp a.eval ⟨dst,.binOp op t x y yt,type,pos,after,guard⟩) w rv w'/\After E (fr+1) sl st (ae st fr ((aC P ⟨dst,.binOp op t x y yt,type,pos,after,guard⟩).map (bT sl))).2.1 (ae st fr ((aC P ⟨dst,.binOp op t x y yt,type,pos,after,guard⟩).map (bT sl))).1 rv a w':=by
   intro ne e1 e0 hu e
   rw [e] at hvc ⊢
   by_cases hb:yl ne (dw x) (dw y)=.bad
   ·rw [hb] at hvc;exact B hvc
   ·obtain ⟨hy,hi⟩:=KC rfl hb
    rw [hi] at hvc ⊢
    have hvy:=hr.val y
    rw [hy] at hvy
    have hys:a.eval y=.slice none 0 0:=fV hvy
    obtain ⟨r,h1,h2,h3⟩:=KY (P:=P) (w:=w) (t:=t) (x:=x) (y:=y) hu (hr.val x) hvc
    subst e0
    rw [<- hys] at h1
    exact bZ hr hfr ⟨r,h1,h2,h3⟩
  have genm:∀ne k e,op=(if ne then .neq else .eql)->P.underlying t=some (.map k e)->aC P ⟨dst,.binOp op t x y yt,type,pos,after,guard⟩=qx ne (dw x) (dw y)->∃rv w',Does P (execOp a.eval ⟨dst,.binOp op t x y yt,type,pos,after,guard⟩) w rv w'/\After E (fr+1) sl st (ae st fr ((aC P ⟨dst,.binOp op t x y yt,type,pos,after,guard⟩).map (bT sl))).2.1 (ae st fr ((aC P ⟨dst,.binOp op t x y yt,type,pos,after,guard⟩).map (bT sl))).1 rv a w':=by
   intro ne k e1 e0 hu e
   rw [e] at hvc ⊢
   by_cases hb:qx ne (dw x) (dw y)=.bad
   ·rw [hb] at hvc;exact B hvc
   ·obtain ⟨hy,hi⟩:=Hz rfl hb
    rw [hi] at hvc ⊢
    have hvy:=hr.val y
    rw [hy] at hvy
    have hys:a.eval y=.map none:=yK hvy
    obtain ⟨r,h1,h2,h3⟩:=G5 (P:=P) (w:=w) (t:=t) (x:=x) (y:=y) hr hu (hr.val x) hvc
    subst e0
    rw [<- hys] at h1
    exact bZ hr hfr ⟨r,h1,h2,h3⟩
  cases op
  case eql =>
   cases hu:P.underlying t with
   | none=>exact B (by simpa [aC,hu] using hvc)
   | some d =>
    cases d
    case struct fs =>
     by_cases hsh:eqShape P t=true
     ·exact gena false rfl hsh (by simp [aC,hu,hsh])
     ·exact B (by simpa [aC,hu,hsh] using hvc)
    case slice e1=>exact geni false e1 rfl hu (by simp [aC,hu])
    case map k e1=>exact genm false k e1 rfl hu (by simp [aC,hu])
    all_goals first|exact B (by simpa [aC,hu] using hvc)|exact genb false rfl (by simp [aC,hu]) hu|exact gen (by simp [aC,hu])
  case neq =>
   cases hu:P.underlying t with
   | none=>exact B (by simpa [aC,hu] using hvc)
   | some d =>
    cases d
    case struct fs =>
     by_cases hsh:eqShape P t=true
     ·exact gena true rfl hsh (by simp [aC,hu,hsh])
     ·exact B (by simpa [aC,hu,hsh] using hvc)
    case slice e1=>exact geni true e1 rfl hu (by simp [aC,hu])
    case map k e1=>exact genm true k e1 rfl hu (by simp [aC,hu])
    all_goals first|exact B (by simpa [aC,hu] using hvc)|exact genb true rfl (by simp [aC,hu]) hu|exact gen (by simp [aC,hu])
  all_goals exact gen rfl
 case unOp op t x=>exact bZ hr hfr (L6 (P:=P) (hr.val x) hvc)
 case convert s t x =>
  cases hs:P.underlying s with
  | none=>exact B (by simpa [aC,hs] using hvc)
  | some ds =>
   cases ht:P.underlying t with
   | none=>exact B (by simpa [aC,hs,ht] using hvc)
   | some dt =>
    cases dt
    case int k =>
     simp only [aC,hs,ht] at hvc ⊢
     exact bZ hr hfr (G7 (P:=P) hs ht (hr.val x) hvc)
    case string =>
     cases ds
     case slice e =>
      cases he:P.underlying e with
      | none=>exact B (by simpa [aC,hs,ht,he] using hvc)
      | some de =>
       cases de
       case int k =>
        cases k
        case u8 =>
         simp only [aC,hs,ht,he] at hvc ⊢
         exact bZ hr hfr (FM (P:=P) hr hs he ht (hr.val x) hvc)
        all_goals exact B (by simpa [aC,hs,ht,he] using hvc)
       all_goals exact B (by simpa [aC,hs,ht,he] using hvc)
     all_goals exact B (by simpa [aC,hs,ht] using hvc)
    all_goals exact B (by simpa [aC,hs,ht] using hvc)
 case box t x =>
  cases hi:P.info? t with
  | none=>exact B (by simpa [aC,hi] using hvc)
  | some i =>
   simp only [aC,hi] at hvc ⊢
   exact lC (GY hr hfr hi (hr.val x) hvc)
 case alloc t =>
  cases hi:P.info? t with
  | none=>exact B (by simpa [aC,hi] using hvc)
  | some i =>
   cases hz:i.zero with
   | none=>exact B (by simpa [aC,hi,hz] using hvc)
   | some z =>
    simp only [aC,hi,hz] at hvc ⊢
    exact lC (Io hr hfr hi hz)
 case nilCheck x =>
  have hv:=hr.val x
  obtain ⟨h1,h2,h3⟩:=Gp (fr:=fr) hv hvc
  refine ⟨a.eval x,w,?_,?_⟩
  ·rcases h3 with ⟨ad,h⟩|⟨f,c,h⟩
   ·left;simp [execOp,h]
   ·left;simp [execOp,h]
  ·have:=hr.pure (M:=fr+1) (by omega) hv
   simp only [aC,HOp.map]
   rw [h1,h2];exact this
 case load t x =>
  cases hd:P.underlying t with
  | none=>exact B (by simpa [aC,hd] using hvc)
  | some d =>
   cases hi:P.info? t with
   | none=>exact B (by simpa [aC,hd,hi] using hvc)
   | some i =>
    simp only [aC,hd,hi] at hvc ⊢
    exact bZ hr hfr (GX hd hi hr (hr.val x) hvc)
 case store t x y =>
  cases hi:P.info? t with
  | none=>exact B (by simpa [aC,hi] using hvc)
  | some i =>
   simp only [aC,hi] at hvc ⊢
   obtain ⟨w',h1,h2⟩:=Gu (P:=P) hr hfr hi (!i.hasPointers) (hr.val x) (hr.val y) hvc
   have hv1:(ae st fr (HOp.map (bT sl) (.store (!i.hasPointers) i.size (dw x) (dw y)))).1=.dead:=by
    simp only [HOp.map,ae]
    split<;>rfl
   refine ⟨undef,w',.inr ⟨by simp [execOp,h1],rfl⟩,?_⟩
   rw [hv1];exact h2
 case extract x i=>exact bZ hr hfr (KG (P:=P) (hr.val x) hvc)
 case indexAddr t x i =>
  cases ht:P.underlying t with
  | none=>exact B (by simpa [aC,ht] using hvc)
  | some d =>
   cases d<;>first|exact B (by simpa [aC,ht] using hvc)|skip
   rename_i e
   cases hi:P.info? e with
   | none=>exact B (by simpa [aC,ht,hi] using hvc)
   | some inf =>
    simp only [aC,ht,hi] at hvc ⊢
    exact bZ hr hfr (FI (P:=P) ht hi (hr.val x) (hr.val i) hvc)
 case fieldAddr t x k =>
  cases ht:P.underlying t with
  | none=>exact B (by simpa [aC,ht] using hvc)
  | some d =>
   cases d<;>first|exact B (by simpa [aC,ht] using hvc)|skip
   rename_i fs
   cases hf:fs[k]? with
   | none=>exact B (by simpa [aC,ht,hf] using hvc)
   | some f =>
    cases hi:P.info? f.type with
    | none=>exact B (by simpa [aC,ht,hf,hi] using hvc)
    | some i =>
     by_cases hz:i.size≠0
     ·simp only [aC,ht,hf,hi,if_pos hz] at hvc ⊢
      exact bZ hr hfr (EM (P:=P) ht hf (hr.val x) hvc hi hz)
     ·exact B (by simpa [aC,ht,hf,hi,hz] using hvc)
 case field t x k =>
  cases ht:P.underlying t with
  | none=>exact B (by simpa [aC,ht] using hvc)
  | some d =>
   cases d<;>first|exact B (by simpa [aC,ht] using hvc)|skip
   rename_i fs
   cases hf:fs[k]? with
   | none=>exact B (by simpa [aC,ht,hf] using hvc)
   | some f =>
    cases hd:P.underlying f.type with
    | none=>exact B (by simpa [aC,ht,hf,hd] using hvc)
    | some df =>
     cases hi:P.info? f.type with
     | none=>exact B (by simpa [aC,ht,hf,hd,hi] using hvc)
     | some i =>
      simp only [aC,ht,hf,hd,hi] at hvc ⊢
      exact bZ hr hfr (KD (P:=P) ht hf hd hi (hr.val x) hvc)
 case slice t x lo hi mx =>
  cases mx with
  | some m =>
   cases lo with
   | some l=>exact B (by simpa [aC] using hvc)
   | none =>
    cases hi with
    | none=>exact B (by simpa [aC] using hvc)
    | some h =>
     cases ht:P.underlying t with
     | none=>exact B (by simpa [aC,ht] using hvc)
     | some d =>
      cases d<;>first|exact B (by simpa [aC,ht] using hvc)|skip
      rename_i e
      cases hi':P.info? e with
      | none=>exact B (by simpa [aC,ht,hi'] using hvc)
      | some i =>
       by_cases hz:(PU (dw h)&&PU (dw m))=true
       ·simp only [aC,ht,hi',if_pos hz] at hvc ⊢
        simp only [aG] at hz
        have:=lC (P:=P) (J8 (P:=P) hr hfr ht hi' (hr.val x) hvc)
        obtain ⟨rv,w',h1,h2⟩:=this
        refine ⟨rv,w',?_,h2⟩
        simpa [execOp,FO hr hz.1,FO hr hz.2] using h1
       ·exact B (by simpa [aC,ht,hi',hz] using hvc)
  | none =>
   cases ht:P.underlying t with
   | none=>exact B (by simpa [aC,ht] using hvc)
   | some d =>
    cases d<;>first|exact B (by simpa [aC,ht] using hvc)|skip
    rename_i e
    cases hi':P.info? e with
    | none=>exact B (by simpa [aC,ht,hi'] using hvc)
    | some i =>
     simp only [aC,ht,hi'] at hvc ⊢
     have hl:((lo.map dw).map (bT sl)=none/\lo.map a.eval=none)\/∃v rv,(lo.map dw).map (bT sl)=some v/\lo.map a.eval=some rv/\V E N st loc fp w v rv:=by
      cases lo with
      | none=>exact .inl ⟨rfl,rfl⟩
      | some l=>exact .inr ⟨_,_,rfl,rfl,hr.val l⟩
     have hh:((hi.map dw).map (bT sl)=none/\hi.map a.eval=none)\/∃v rv,(hi.map dw).map (bT sl)=some v/\hi.map a.eval=some rv/\V E N st loc fp w v rv:=by
      cases hi with
      | none=>exact .inl ⟨rfl,rfl⟩
      | some l=>exact .inr ⟨_,_,rfl,rfl,hr.val l⟩
     exact bZ hr hfr (KT (P:=P) ht hi' (hr.val x) hl hh hvc)
 case makeSlice t l c =>
  cases ht:P.underlying t with
  | none=>exact B (by simpa [aC,ht] using hvc)
  | some d =>
   cases d<;>first|exact B (by simpa [aC,ht] using hvc)|skip
   rename_i e
   cases hi:P.info? e with
   | none=>exact B (by simpa [aC,ht,hi] using hvc)
   | some i =>
    cases hz:i.zero with
    | none=>exact B (by simpa [aC,ht,hi,hz] using hvc)
    | some z =>
     by_cases hc:z.cells.size=i.size/\0<i.size/\FC l c=true
     ·simp only [aC,ht,hi,hz,if_pos hc] at hvc ⊢
      have he:a.eval c=a.eval l:=(GU hc.2.2).symm
      have:=lC (P:=P) (H5 (P:=P) hr hfr ht hi hz hc.1 hc.2.1 (hr.val l) (fun F h=>Ny (OW.ofVals _)) hvc)
      simp only [execOp,he]
      exact this
     ·exact B (by simpa [aC,ht,hi,hz,hc] using hvc)
 case makeFunc fn first cap =>
  cases fn<;>first|exact B (by simpa [aC] using hvc)|skip
  rename_i f
  by_cases hc:first.size=0
  ·simp only [aC,if_pos hc] at hvc ⊢
   have h0:first=#[]:=Array.eq_empty_of_size_eq_zero hc
   subst h0
   have:=Il (f:=f) (cap:=cap.toList) hr
   have e1:cap.toList.map (bT sl ∘ dw)=cap.toList.map fun x=>bT sl (dw x):=rfl
   refine bZ hr hfr ⟨.func (.func f) #[] (cap.map a.eval),by simp [Instr.makeFunc],?_,rfl⟩
   have e2:cap.map a.eval=(cap.toList.map a.eval).toArray:=by apply qV;simp
   simp only [HOp.map,ae,iG,e1,e2]
   exact this
  ·exact B (by simpa [aC,hc] using hvc)
 case buildSlice t n parts =>
  cases ht:P.underlying t with
  | none=>exact B (by simpa [aC,ht] using hvc)
  | some d =>
   cases d<;>first|exact B (by simpa [aC,ht] using hvc)|skip
   rename_i e
   cases hi:P.info? e with
   | none=>exact B (by simpa [aC,ht,hi] using hvc)
   | some i =>
    by_cases hc:i.zero.isSome/\0<i.size/\n*i.size<=16777216/\parts.toList.map (·.1)=List.range parts.toList.length
    ·simp only [aC,ht,hi,if_pos hc] at hvc ⊢
     exact lC (P:=P) (Qk hr hfr ht hi hc hvc)
    ·simp only [aC,ht,hi,if_neg hc] at hvc
     exact B hvc
 case build t parts =>
  cases hit:P.info? t with
  | none=>exact B (by simpa [aC,hit] using hvc)
  | some it =>
   cases hu:P.underlying t with
   | none=>exact B (by simpa [aC,hit,hu] using hvc)
   | some d =>
    cases d<;>first|exact B (by simpa [aC,hit,hu] using hvc)|skip
    rename_i fs
    cases hz:it.zero with
    | none=>exact B (by simpa [aC,hit,hu,hz] using hvc)
    | some z =>
     cases hpl:fs.toList.mapM (fun f=>(P.info? f.type).map fun i=>(f.offset,i.size)) with
     | none=>exact B (by simpa [aC,hit,hu,hz,hpl] using hvc)
     | some places =>
      cases hq:parts.toList.mapM (fun p=>(places[p.1]?).map fun q=>(q.1,q.2,dw p.2)) with
      | none=>exact B (by simpa [aC,hit,hu,hz,hpl,hq] using hvc)
      | some qs =>
       simp only [aC,hit,hu,hz,hpl,hq] at hvc ⊢
       exact bZ hr hfr (J9 (P:=P) hit hu hz hpl (Qw hr hq) hvc)
 case call c=>exact PD hr hfr hnc hvc
 case makeMap t res =>
  cases res with
  | some _=>exact B hvc
  | none =>
   cases hk:Ap P t with
   | none=>exact B (by simpa [aC,hk] using hvc)
   | some q =>
    simp only [aC,hk] at hvc ⊢
    exact lC (EG (P:=P) hr hfr t q.1)
 case lookup t x i ok =>
  cases hk:Ap P t with
  | none=>exact B (by simpa [aC,hk] using hvc)
  | some q =>
   obtain ⟨kk,e⟩:=q
   obtain ⟨k,hu,hkk⟩:=wS hk
   cases hi:P.info? e with
   | none=>exact B (by simpa [aC,hk,hi] using hvc)
   | some inf =>
    cases hz:inf.zero with
    | none=>exact B (by simpa [aC,hk,hi,hz] using hvc)
    | some z =>
     simp only [aC,hk,hi,hz] at hvc ⊢
     exact bZ hr hfr (EC (P:=P) hr hu hkk hi hz ok (hr.val x) (hr.val i) hvc)
 case mapUpdate t m k x =>
  cases hk:Ap P t with
  | none=>exact B (by simpa [aC,hk] using hvc)
  | some q =>
   obtain ⟨kk,e⟩:=q
   obtain ⟨k0,hu,hkk⟩:=wS hk
   simp only [aC,hk] at hvc ⊢
   obtain ⟨w',h1,h2⟩:=zD (P:=P) hr hfr hu hkk (hr.val m) (hr.val k) (hr.val x) hvc
   refine ⟨undef,w',.inr ⟨by simp [execOp,h1],rfl⟩,?_⟩
   rw [AP];exact h2
 case insert t m k x =>
  cases hk:Ap P t with
  | none=>exact B (by simpa [aC,hk] using hvc)
  | some q =>
   obtain ⟨kk,e⟩:=q
   obtain ⟨k0,hu,hkk⟩:=wS hk
   simp only [aC,hk] at hvc ⊢
   obtain ⟨w',h1,h2⟩:=zD (P:=P) hr hfr hu hkk (hr.val m) (hr.val k) (hr.val x) hvc
   refine ⟨undef,w',.inr ⟨by simp [execOp,h1],rfl⟩,?_⟩
   rw [AP];exact h2
 case range t x =>
  cases ht:P.underlying t with
  | none=>exact B (by simpa [aC,ht] using hvc)
  | some d=>cases d<;>first|exact B (by simpa [aC,ht] using hvc)|(simp only [aC,ht] at hvc;exact hvc.elim)
 case next it isS=>cases isS<;>exact hvc.elim
 case entry it=>exact hvc.elim
 all_goals exact B hvc
end
theorem oQ (t t':Nat) (v:HV) (l:List (Nat×HV)):au t' (xm t v l)=if t=t' then v else au t' l:=by
 induction l with
 | nil=>simp [xm,au]
 | cons p l ih =>
  obtain ⟨k,u⟩:=p
  unfold xm
  by_cases h1:k=t
  ·subst h1
   simp only [if_true,au]
   by_cases h2:k=t'<;>simp [h2]
  ·rw [if_neg h1]
   by_cases h3:t<k
   ·rw [if_pos h3]
    simp only [au]
   ·rw [if_neg h3]
    simp only [au,ih]
    by_cases h4:k=t'
    ·subst h4;simp [Ne.symm h1]
    ·simp [h4]
theorem lh (t id len:Nat) (l:List (Nat×HV)):au t (l.map fun p=>(p.1,p.2.kill id len))=(au t l).kill id len:=by
 induction l with
 | nil=>rfl
 | cons p l ih =>
  obtain ⟨k,u⟩:=p
  simp only [iy,au,ih]
  split<;>rfl
def St.S (s:St):Lk:=fun t=>au t s.sl
def St.M (s:St):Lk:=fun t=>au t s.st
theorem St.upd_M (s:St) (us:List dJ):(s.upd us).M=Lk.upd s.M us:=by
 induction us generalizing s with
 | nil=>rfl
 | cons u us ih =>
  cases u with
  | put id t =>
   simp only [St.upd,Lk.upd,ih]
   congr 1
   funext i
   simp only [St.M,oQ]
   by_cases h:id=i
   ·subst h;simp
   ·simp [h,Ne.symm h]
  | kill id len=>simp only [St.upd,Lk.upd,ih];rfl
theorem St.upd_S (s:St) (us:List dJ):(s.upd us).S=qF s.S us:=by
 induction us generalizing s with
 | nil=>rfl
 | cons u us ih =>
  cases u with
  | put id t=>simp only [St.upd,qF,ih];rfl
  | kill id len =>
   simp only [St.upd,qF,ih]
   congr 1
   funext t
   exact lh t id len s.sl
theorem St.upd_nx (s:St) (us:List dJ):(s.upd us).nx=s.nx:=by
 induction us generalizing s with
 | nil=>rfl
 | cons u us ih=>cases u<;>simp only [St.upd,ih]
theorem St.put_S (s:St) (d:Option Nat) (v:HV):(s.put d v).S=fun t=>if d=some t then v else s.S t:=by
 funext t
 cases d with
 | none=>simp [St.put]
 | some d=>simp [St.put,St.S,oQ]
theorem St.put_M (s:St) (d:Option Nat) (v:HV):(s.put d v).M=s.M:=by cases d<;>rfl
theorem St.put_nx (s:St) (d:Option Nat) (v:HV):(s.put d v).nx=s.nx:=by cases d<;>rfl
theorem kV (s:St):ev s.sl=bT s.S:=by funext x;cases x<;>rfl
def SRel (E:Fr) (N:Nat) (s:St) (a:Act) (w:World):Prop:=∃loc fp,Rel E N s.S s.M loc fp a w
def zB (P:Program) (f:FuncId):Prop:=∃fn,P.funcs[f]?=some fn/\fn.body.isSome=true/\(fn.name == "runtime.NumGoroutine")=false
def HT (P:Program) (f:FuncId) (args:List HV) (K:HV->Prop):Prop:=zB P f /\
 ∀ (w:World) (rargs:List Value) (F:Nat->Prop),(∀b,F b->b<w.heap.size)->OW F w.heap dA args rargs [] ->
  Calls P f rargs.toArray w (fun e w'=>∃rv res fs,e=.returned rv/\K res/\OW (fun b=>F b\/(w.heap.size<=b/\b<w'.heap.size/\b ∉ fs)) w'.heap dA [res] [rv] fs/\fs.Nodup/\(∀b∈fs,w.heap.size<=b)/\Below w.heap.size w w')
section
variable {P:Program} {E:Fr} {N fr:Nat} {sl st:Lk} {loc:Nat->Value} {fp:Nat->List Nat} {a:Act} {w:World}
theorem OW.thaw (hr:Rel E N sl st loc fp a w) (T:Nat->Bool) {F':Nat->Prop} {R':HV->Value->Prop} (hF1:∀b,dX E fp w b->F' b) (hF2:∀id,T id=true->∀b∈fp id,F' b) (hRR:∀v rv id,RefR N st loc w.heap v rv->dH v=some id->T id=false->R' v rv) {vs:List HV} {rvs:List Value} {R:HV->Value->Prop} {fs:List Nat} (o:OW (dX E fp w) w.heap R vs rvs fs) (hR:R=RefR N st loc w.heap) (hfs:fs=[]):OW F' w.heap R' (bI T st vs) rvs []:=by
 have up:∀ {vs rvs fs},OW (dX E fp w) w.heap dA vs rvs fs->OW F' w.heap dA vs rvs fs:=fun o=>o.stable (fun _ _=>rfl) (fun b hb=>⟨hF1 b hb,rfl⟩) (fun _ _ h=>h)
 induction o with
 | nil=>exact .nil
 | @leaf R v rv r rr fs a b c d e f g _ ih =>
  have ih':=ih hR hfs
  subst hR
  have node:∀ {id p},p.length<=2->isNode (ah (st id) p)->∃rv' f',bW w.heap (loc id) p=some rv'/\OW (dX E fp w) w.heap dA [ah (st id) p] [rv'] f'/\f'.Nodup/\(T id=true->∀b∈f',F' b):=by
   intro id p hp hn
   obtain ⟨rv',f1,f',f2,e1,e2,e3,_,_,_⟩:=(hr.tree id (bV hn)).focus hp hn
   have hnd:=hr.nodup id
   rw [e2,zl007,zl007] at hnd
   exact ⟨rv',f',e1,e3,hnd.1.2.1,fun hT b hb=>hF2 id hT b (by rw [e2];simp [hb])⟩
  cases v<;>simp [fH] at a b c d e f
  ·rename_i id p sz off n
   have g0:=g
   obtain ⟨_,hp,⟨a',cc,rfl,hc,h0⟩,h5,h4⟩:=g
   simp only [bI,HV.thaw]
   by_cases hT:T id=true
   case neg=>rw [if_neg hT];exact (cZ rfl (hRR _ _ id g0 rfl (by simpa using hT))).cons1 ih'
   rw [if_pos hT]
   cases hnd:ah (st id) p<;>simp only<;>(first|exact .dead ih'|skip)
   rename_i sz2 m cs
   obtain ⟨rfl,a2,cap,b1,b2⟩:=h4 _ _ _ hnd
   obtain ⟨rv',f',e1,e3,nf,lf⟩:=node hp (by rw [hnd];trivial)
   replace lf:=lf hT
   rw [e1] at b1
   cases b1
   rw [hnd] at e3
   by_cases hn0:n=0
   ·subst hn0
    have hw:HL.win cs off (0*sz2)=[]:=fG (by have:=iW cs off (0*sz2);omega)
    rw [hw]
    exact .sl0 ih'
   ·rcases b2 with ⟨rfl,_⟩|⟨g,oo,c',rfl,b3,b4,b5,b6⟩
    ·exact absurd rfl hn0
    cases b3
    cases e3 with
    | leaf _ h2=>exact absurd rfl (h2 _ _ _)
    | osl0=>omega
    | @osl _ _ _ _ _ _ _ cur e5 rvs f3 _ _ _ g1 g2 g3 g4 g5 g6 g7 g8 =>
     cases g8
     simp only [List.append_nil] at nf lf
     obtain ⟨fw,ow,sw,nw⟩:=g7.winOwn (zl027.1 nf).2 off (n*sz2)
     have os:=ow.strip (F':=F') (fun _ _ h=>h) (fun b hb=>lf b (by simp [sw b hb])) hF1
     have l1:=os.length
     have l2:=ow.length
     refine .sl (lf g (by simp)) g1 ?_ hc os ih'
     have hle:=iW cs off (n*sz2)
     rw [l1,g3,List.drop_take,BM,nR]
     apply o7
     intro j
     simp only [oO,xH,gB,lT,oP]
     by_cases hj:oo+off+j<cur.size
     ·by_cases hjj:j<min (n*sz2) (cs.length - off)
      ·rw [if_pos hjj,if_pos (by omega)]
      ·rw [if_neg hjj,if_neg (by omega)]
     ·have:cur.toList[oo+off+j]?=none:=by simp;omega
      simp [this]
  ·rename_i id p off
   have gg:=g
   obtain ⟨_,hp,⟨g0,o0,rfl⟩,h4⟩:=g
   simp only [bI,HV.thaw]
   by_cases hT:T id=true
   case neg=>rw [if_neg hT];exact (cZ rfl (hRR _ _ id gg rfl (by simpa using hT))).cons1 ih'
   rw [if_pos hT]
   cases hnd:ah (st id) p<;>simp only<;>(first|exact .dead ih'|skip)
   rename_i cs
   ·obtain ⟨rv',f',e1,e3,nf,lf⟩:=node hp (by rw [hnd];trivial)
    replace lf:=lf hT
    obtain ⟨rvn,g,oo,b1,b2,b3⟩:=h4 (by rw [hnd];trivial)
    rw [e1] at b1
    cases b1
    rw [hnd] at e3
    cases e3 with
    | leaf _ _ h2=>exact absurd rfl (h2.1 _)
    | optr g1 g7 g8 =>
     cases g8
     simp only [List.append_nil] at nf lf
     simp only [je,bY,kD] at b2
     obtain ⟨rfl,rfl⟩:=b2
     rw [b3]
     have os:=g7.strip (F':=F') (fun _ _ h=>h) (fun b hb=>lf b (by simp [hb])) hF1
     refine .ptr (lf _ (by simp)) g1 ?_ os ih'
     rw [os.length,List.drop_zero,lV]
  ·exact .dead ih'
  ·rename_i id p
   have gg:=g
   obtain ⟨_,hp,_,_,h4⟩:=g
   simp only [bI,HV.thaw]
   by_cases hT:T id=true
   case neg=>rw [if_neg hT];exact (cZ rfl (hRR _ _ id gg rfl (by simpa using hT))).cons1 ih'
   rw [if_pos hT]
   cases hnd:ah (st id) p<;>simp only<;>(first|exact .dead ih'|skip)
   rename_i m ks cs
   obtain ⟨rv',f',e1,e3,nf,lf⟩:=node hp (by rw [hnd];trivial)
   replace lf:=lf hT
   have b1:=h4 (by rw [hnd];trivial)
   rw [e1] at b1
   cases b1
   rw [hnd] at e3
   obtain ⟨g,es,ck,f1,rfl,q1,q2,rfl,q4⟩:=Du e3
   exact .rmap (lf _ (by simp)) q1 q2 (q4.strip (F':=F') (fun _ _ h=>h) (fun b hb=>lf b (by simp [hb])) hF1) ih'
  ·exact absurd rfl (c _ _ _ _ rfl rfl rfl)
 | int _ ih=>exact .int (ih hR hfs)
 | bool _ ih=>exact .bool (ih hR hfs)
 | str _ ih=>exact .str (ih hR hfs)
 | nils _ ih=>exact .nils (ih hR hfs)
 | nilp _ ih=>exact .nilp (ih hR hfs)
 | nilf _ ih=>exact .nilf (ih hR hfs)
 | dead _ ih=>exact .dead (ih hR hfs)
 | sl0 _ ih=>exact .sl0 (ih hR hfs)
 | sl a b c d e _ _ ih=>exact .sl (hF1 _ a) b c d (up e) (ih hR hfs)
 | osl0 _ ih=>exact .dead (ih hR hfs)
 | osl=>simp at hfs
 | ptr a b c d _ _ ih=>exact .ptr (hF1 _ a) b c (up d) (ih hR hfs)
 | optr=>simp at hfs
 | nilm _ ih=>exact .nilm (ih hR hfs)
 | rmap a b c d _ _ ih=>exact .rmap (hF1 _ a) b c (up d) (ih hR hfs)
 | omap=>simp at hfs
 | oitr=>simp at hfs
 | agg _ _ ih1 ih2 =>
  obtain ⟨rfl,rfl⟩:_=[]/\_=[]:=by simpa using hfs
  exact .agg (ih1 hR rfl) (ih2 hR rfl)
 | tup _ _ ih1 ih2 =>
  obtain ⟨rfl,rfl⟩:_=[]/\_=[]:=by simpa using hfs
  exact .tup (ih1 hR rfl) (ih2 hR rfl)
 | fn _ _ ih1 ih2 =>
  obtain ⟨rfl,rfl⟩:_=[]/\_=[]:=by simpa using hfs
  exact .fn (ih1 hR rfl) (ih2 hR rfl)
end
section
variable {P:Program} {E:Fr} {N fr:Nat} {sl st:Lk} {loc:Nat->Value} {fp:Nat->List Nat} {a:Act} {w:World}
def UP (F:Nat->Prop) (h:Hp) (rvs:List Value) (fs:List Nat) (fr:Nat) (r:List HV×List dJ×Nat):Prop :=
 ∃ (T:Nat->HV) (loc:Nat->Value) (fp:Nat->List Nat),fr<=r.2.2/\(∀st id,Lk.upd st r.2.1 id=if fr<=id/\id<r.2.2 then T id else st id)/\(∀sl,qF sl r.2.1=sl) /\
  (∀id,fr<=id->id<r.2.2->T id≠.dead/\OW F h dA [T id] [loc id] (fp id)/\(fp id).Nodup/\∀b∈fp id,b∈fs) /\
  (∀i j,fr<=i->i<r.2.2->fr<=j->j<r.2.2->i≠j->∀b∈fp i,b ∉ fp j) /\
  (∀N st' loc',r.2.2<=N->(∀id,fr<=id->id<r.2.2->st' id=T id/\loc' id=loc id)->OW F h (RefR N st' loc' h) r.1 rvs [])
theorem UP.same {F:Nat->Prop} {h:Hp} {vs:List HV} {rvs:List Value} (fs:List Nat) (fr:Nat) (o:∀N st' loc',OW F h (RefR N st' loc' h) vs rvs []):UP F h rvs fs fr (vs,[],fr) :=
 ⟨fun _=>.dead,fun _=>undef,fun _=>[],aP _,fun st id=>by rw [if_neg (by simp only;omega)];rfl,fun _=>rfl,fun id h1 h2=>by simp only at h2;omega,fun i j h1 h2=>by simp only at h2;omega,fun N st' loc' _ _=>o N st' loc'⟩
theorem UP.app {F:Nat->Prop} {h:Hp} {rvs1 rvs2:List Value} {f1 f2:List Nat} {fr:Nat} {r1 r2:List HV×List dJ×Nat} (u1:UP F h rvs1 f1 fr r1) (u2:UP F h rvs2 f2 r1.2.2 r2) (hnd:(f1++f2).Nodup) :
  UP F h (rvs1++rvs2) (f1++f2) fr (r1.1++r2.1,r1.2.1++r2.2.1,r2.2.2):=by
 obtain ⟨T1,l1,p1,a1,b1,c1,d1,e1,g1⟩:=u1
 obtain ⟨T2,l2,p2,a2,b2,c2,d2,e2,g2⟩:=u2
 rw [zl007] at hnd
 refine ⟨fun i=>if i<r1.2.2 then T1 i else T2 i,fun i=>if i<r1.2.2 then l1 i else l2 i,fun i=>if i<r1.2.2 then p1 i else p2 i,xy a1 a2,?_,?_,?_,?_,?_⟩
 ·intro st id
  simp only
  rw [bQ,b2,b1]
  by_cases h1:id<r1.2.2
  ·rw [if_neg (by omega)]
   simp only [h1,if_true,and_true]
   by_cases h2:fr<=id
   ·rw [if_pos h2,if_pos ⟨h2,by omega⟩]
   ·rw [if_neg h2,if_neg (fun h=>h2 h.1)]
  ·simp only [h1,if_false,and_false]
   by_cases h2:id<r2.2.2
   ·rw [if_pos ⟨by omega,h2⟩,if_pos ⟨by omega,h2⟩]
   ·rw [if_neg (fun h=>h2 h.2),if_neg (fun h=>h2 h.2)]
 ·intro sl;rw [dG,c1,c2]
 ·intro id h1 h2
  by_cases h3:id<r1.2.2
  ·simp only [h3,if_true]
   obtain ⟨x1,x2,x3,x4⟩:=d1 id h1 h3
   exact ⟨x1,x2,x3,fun b hb=>List.mem_append_left _ (x4 b hb)⟩
  ·simp only [h3,if_false]
   obtain ⟨x1,x2,x3,x4⟩:=d2 id (by omega) h2
   exact ⟨x1,x2,x3,fun b hb=>List.mem_append_right _ (x4 b hb)⟩
 ·intro i j h1 h2 h3 h4 hij b hb hb'
  by_cases q1:i<r1.2.2<;>by_cases q2:j<r1.2.2<;>simp only [q1,q2,if_true,if_false] at hb hb'
  ·exact e1 i j h1 q1 h3 q2 hij b hb hb'
  ·exact hnd.2.2 b ((d1 i h1 q1).2.2.2 b hb) b ((d2 j (by omega) h4).2.2.2 b hb') rfl
  ·exact hnd.2.2 b ((d1 j h3 q2).2.2.2 b hb') b ((d2 i (by omega) h2).2.2.2 b hb) rfl
  ·exact e2 i j (by omega) h2 (by omega) h4 hij b hb hb'
 ·intro N st' loc' hN hs
  have o1:=g1 N st' loc' (xy a2 hN) fun id h1 h2=>by have:=hs id h1 (by simp only;omega);simpa [h2] using this
  have o2:=g2 N st' loc' hN fun id h1 h2=>by have:=hs id (by omega) h2;simpa [show ¬ id<r1.2.2 by omega] using this
  simpa using o1.append o2
theorem UP.cons0 {F:Nat->Prop} {h:Hp} {v:HV} {rv:Value} {r:List HV} {rr:List Value} {fs:List Nat} {fr:Nat} (hv:HL.unpack fr v=(v,[],fr)) (o1:∀R',OW F h R' [v] [rv] []) (u:UP F h rr fs fr (aH fr r)) (hnd:fs.Nodup):UP F h (rv::rr) fs fr (aH fr (v::r)):=by
 have:=(UP.same (F:=F) (h:=h) (vs:=[v]) (rvs:=[rv]) [] fr fun _ _ _=>o1 _).app u (by simpa using hnd)
 simpa [aH,hv] using this
theorem OW.unpack {F:Nat->Prop} {h:Hp} {R:HV->Value->Prop} {vs rvs fs} (o:OW F h R vs rvs fs) (hR:∀v rv,¬ R v rv):∀fr,fs.Nodup->UP F h rvs fs fr (aH fr vs):=by
 induction o with
 | nil=>intro fr _;exact .same [] fr fun _ _ _=>.nil
 | leaf _ _ _ _ _ _ g _ _=>exact absurd g (hR _ _)
 | int _ ih=>intro fr hnd;exact UP.cons0 rfl (fun _=>.int .nil) (ih hR fr hnd) hnd
 | bool _ ih=>intro fr hnd;exact UP.cons0 rfl (fun _=>.bool .nil) (ih hR fr hnd) hnd
 | str _ ih=>intro fr hnd;exact UP.cons0 rfl (fun _=>.str .nil) (ih hR fr hnd) hnd
 | nils _ ih=>intro fr hnd;exact UP.cons0 rfl (fun _=>.nils .nil) (ih hR fr hnd) hnd
 | nilp _ ih=>intro fr hnd;exact UP.cons0 rfl (fun _=>.nilp .nil) (ih hR fr hnd) hnd
 | nilf _ ih=>intro fr hnd;exact UP.cons0 rfl (fun _=>.nilf .nil) (ih hR fr hnd) hnd
 | dead _ ih=>intro fr hnd;exact UP.cons0 rfl (fun _=>.dead .nil) (ih hR fr hnd) hnd
 | sl0 _ ih=>intro fr hnd;exact UP.cons0 rfl (fun _=>.sl0 .nil) (ih hR fr hnd) hnd
 | sl a b c d e _ _ ih=>intro fr hnd;exact UP.cons0 rfl (fun _=>.sl a b c d e .nil) (ih hR fr hnd) hnd
 | ptr a b c d _ _ ih=>intro fr hnd;exact UP.cons0 rfl (fun _=>.ptr a b c d .nil) (ih hR fr hnd) hnd
 | @osl0 R sz a r rr fs t ih =>
  intro fr hnd
  have u:UP F h [.slice a 0 0] [] fr ([.ref fr [] sz 0 0],[.put fr (.osl sz 0 [])],fr+1) :=
   ⟨fun _=>.osl sz 0 [],fun _=>.slice a 0 0,fun _=>[],by simp,fun st id=>by
    simp only [Lk.upd];by_cases h:id=fr
    ·rw [if_pos h,if_pos (by omega)]
    ·rw [if_neg h,if_neg (by omega)],fun _=>rfl,fun id _ _=>⟨by simp,.osl0 .nil,by simp,by simp⟩,fun i j h1 h2 h3 h4 hij=>by simp only at h2 h4;omega,
    fun N st' loc' hN hs=>cZ rfl (by
     obtain ⟨s1,s2⟩:=hs fr (aP _) (by simp)
     have:=yM (h2:=h) (F:=F) (h:=h) (OW.osl0 .nil) s1 s2
     exact this.up hN)⟩
  have:=u.app (ih hR (fr+1) hnd) (by simpa using hnd)
  simpa [aH,HL.unpack] using this
 | @osl R sz n cs g off cap cur e rvs f1 r rr fs a b c d e' f x t _ ih2 =>
  intro fr hnd
  have hnd0:=hnd
  rw [zl007] at hnd0
  have ho:OW F h dA [.osl sz n cs] [.slice (some ⟨g,off,none⟩) n cap] (g::f1):=by simpa using OW.osl (R:=dA) a b c d e' f x .nil
  have u:UP F h [.slice (some ⟨g,off,none⟩) n cap] (g::f1) fr ([.ref fr [] sz 0 n],[.put fr (.osl sz n cs)],fr+1) :=
   ⟨fun _=>.osl sz n cs,fun _=>.slice (some ⟨g,off,none⟩) n cap,fun _=>g::f1,by simp,fun st id=>by
    simp only [Lk.upd];by_cases h:id=fr
    ·rw [if_pos h,if_pos (by omega)]
    ·rw [if_neg h,if_neg (by omega)],fun _=>rfl,fun id _ _=>⟨by simp,ho,hnd0.1,fun _ h=>h⟩,fun i j h1 h2 h3 h4 hij=>by simp only at h2 h4;omega,
    fun N st' loc' hN hs=>cZ rfl (by
     obtain ⟨s1,s2⟩:=hs fr (aP _) (by simp)
     exact (yM (h2:=h) ho s1 s2).up hN)⟩
  have:=u.app (ih2 hR (fr+1) hnd0.2.1) hnd
  simpa [aH,HL.unpack] using this
 | @optr R cs g cur e f1 r rr fs a x t _ ih2 =>
  intro fr hnd
  have hnd0:=hnd
  rw [zl007] at hnd0
  have ho:OW F h dA [.optr cs] [.pointer (some ⟨g,0,none⟩)] (g::f1):=by simpa using OW.optr (R:=dA) a x .nil
  have u:UP F h [.pointer (some ⟨g,0,none⟩)] (g::f1) fr ([.pref fr [] 0],[.put fr (.optr cs)],fr+1) :=
   ⟨fun _=>.optr cs,fun _=>.pointer (some ⟨g,0,none⟩),fun _=>g::f1,by simp,fun st id=>by
    simp only [Lk.upd];by_cases h:id=fr
    ·rw [if_pos h,if_pos (by omega)]
    ·rw [if_neg h,if_neg (by omega)],fun _=>rfl,fun id _ _=>⟨by simp,ho,hnd0.1,fun _ h=>h⟩,fun i j h1 h2 h3 h4 hij=>by simp only at h2 h4;omega,
    fun N st' loc' hN hs=>cZ rfl (by
     obtain ⟨s1,s2⟩:=hs fr (aP _) (by simp)
     exact ⟨by simp only at hN;omega,by simp,⟨_,_,rfl⟩,fun _=>⟨.pointer (some ⟨g,0,none⟩),g,0,by simp [bW,s2],rfl,rfl⟩⟩)⟩
  have:=u.app (ih2 hR (fr+1) hnd0.2.1) hnd
  simpa [aH,HL.unpack] using this
 | nilm _ ih=>intro fr hnd;exact UP.cons0 rfl (fun _=>.nilm .nil) (ih hR fr hnd) hnd
 | rmap a b c d _ _ ih=>intro fr hnd;exact UP.cons0 rfl (fun _=>.rmap a b c d .nil) (ih hR fr hnd) hnd
 | @omap R m ks cs g es ck f1 r rr fs a y x t _ ih2 =>
  intro fr hnd
  have hnd0:=hnd
  rw [zl007] at hnd0
  have ho:OW F h dA [.omap m ks cs] [.map (some g)] (g::f1):=by simpa using OW.omap (R:=dA) a y x .nil
  have u:UP F h [.map (some g)] (g::f1) fr ([.mref fr []],[.put fr (.omap m ks cs)],fr+1) :=
   ⟨fun _=>.omap m ks cs,fun _=>.map (some g),fun _=>g::f1,by simp,fun st id=>by
    simp only [Lk.upd];by_cases h:id=fr
    ·rw [if_pos h,if_pos (by omega)]
    ·rw [if_neg h,if_neg (by omega)],fun _=>rfl,fun id _ _=>⟨by simp,ho,hnd0.1,fun _ h=>h⟩,fun i j h1 h2 h3 h4 hij=>by simp only at h2 h4;omega,
    fun N st' loc' hN hs=>cZ rfl (by
     obtain ⟨s1,s2⟩:=hs fr (aP _) (by simp)
     exact ⟨by simp only at hN;omega,by simp,⟨_,.inl rfl⟩,by rw [s1];simp [ah],fun _=>by simp [bW,s2]⟩)⟩
  have:=u.app (ih2 hR (fr+1) hnd0.2.1) hnd
  simpa [aH,HL.unpack] using this
 | @oitr R b s l c g r rr fs a t ih2 =>
  intro fr hnd
  have hnd0:=hnd
  rw [zl007] at hnd0
  have ho:OW F h dA [.oitr b s l c] [.pointer (some ⟨g,0,none⟩)] [g]:=by simpa using OW.oitr (R:=dA) a .nil
  have u:UP F h [.pointer (some ⟨g,0,none⟩)] [g] fr ([.mref fr []],[.put fr (.oitr b s l c)],fr+1) :=
   ⟨fun _=>.oitr b s l c,fun _=>.pointer (some ⟨g,0,none⟩),fun _=>[g],by simp,fun st id=>by
    simp only [Lk.upd];by_cases h:id=fr
    ·rw [if_pos h,if_pos (by omega)]
    ·rw [if_neg h,if_neg (by omega)],fun _=>rfl,fun id _ _=>⟨by simp,ho,by simp,fun _ h=>h⟩,fun i j h1 h2 h3 h4 hij=>by simp only at h2 h4;omega,
    fun N st' loc' hN hs=>cZ rfl (by
     obtain ⟨s1,s2⟩:=hs fr (aP _) (by simp)
     exact ⟨by simp only at hN;omega,by simp,⟨_,.inr rfl⟩,by rw [s1];simp [ah],fun _=>by simp [bW,s2]⟩)⟩
  have:=u.app (ih2 hR (fr+1) hnd0.2.1) hnd
  simpa [aH,HL.unpack] using this
 | @agg R cs rvs f1 r rr fs _ _ ih1 ih2 =>
  intro fr hnd
  have hnd0:=hnd
  rw [zl007] at hnd0
  have u1:=ih1 hR fr hnd0.1
  have u:UP F h [.agg rvs.toArray] f1 fr ([.agg (aH fr cs).1],(aH fr cs).2.1,(aH fr cs).2.2):=by
   obtain ⟨T,l,p,a,b,c,d,e,g⟩:=u1
   exact ⟨T,l,p,a,b,c,d,e,fun N st' loc' hN hs=>by simpa using OW.agg (g N st' loc' hN hs) .nil⟩
  have:=u.app (ih2 hR _ hnd0.2.1) hnd
  simpa [aH,HL.unpack] using this
 | @tup R cs rvs f1 r rr fs _ _ ih1 ih2 =>
  intro fr hnd
  have hnd0:=hnd
  rw [zl007] at hnd0
  have u1:=ih1 hR fr hnd0.1
  have u:UP F h [.tuple rvs.toArray] f1 fr ([.tup (aH fr cs).1],(aH fr cs).2.1,(aH fr cs).2.2):=by
   obtain ⟨T,l,p,a,b,c,d,e,g⟩:=u1
   exact ⟨T,l,p,a,b,c,d,e,fun N st' loc' hN hs=>by simpa using OW.tup (g N st' loc' hN hs) .nil⟩
  have:=u.app (ih2 hR _ hnd0.2.1) hnd
  simpa [aH,HL.unpack] using this
 | @fn R f cs rvs f1 r rr fs _ _ ih1 ih2 =>
  intro fr hnd
  have hnd0:=hnd
  rw [zl007] at hnd0
  have u1:=ih1 hR fr hnd0.1
  have u:UP F h [.func (.func f) #[] rvs.toArray] f1 fr ([.fn f (aH fr cs).1],(aH fr cs).2.1,(aH fr cs).2.2):=by
   obtain ⟨T,l,p,a,b,c,d,e,g⟩:=u1
   exact ⟨T,l,p,a,b,c,d,e,fun N st' loc' hN hs=>by simpa using OW.fn (g N st' loc' hN hs) .nil⟩
  have:=u.app (ih2 hR _ hnd0.2.1) hnd
  simpa [aH,HL.unpack] using this
theorem Rel.back (hr:Rel E N sl st loc fp a w) (hfr:N<=fr) {w':World} (hb:Below w.heap.size w w') {res:HV} {rv:Value} {fs:List Nat} {F0:Nat->Prop} (hF0:∀b,F0 b->dX E fp w b\/(w.heap.size<=b/\b<w'.heap.size/\b ∉ fs)) (ho:OW F0 w'.heap dA [res] [rv] fs) (hnd:fs.Nodup) (hfs:∀b∈fs,w.heap.size<=b) :
  fr<=(unpack fr res).2.2/\After E (unpack fr res).2.2 sl st (unpack fr res).2.1 (unpack fr res).1 rv a w':=by
 have u:=ho.unpack (fun _ _ h=>h) fr hnd
 obtain ⟨T,l,p,a1,b1,c1,d1,e1,g1⟩:=u
 simp only [aH,List.append_nil] at a1 b1 c1 d1 e1 g1
 have hlt:=ho.lt
 refine ⟨a1,?_⟩
 have main:=hr.step (fun _=>True) hr.all (fun i=>fr<=i/\i<(unpack fr res).2.2) (N':=(unpack fr res).2.2) (st':=Lk.upd st (unpack fr res).2.1) (loc':=fun i=>if fr<=i/\i<(unpack fr res).2.2 then l i else loc i) (fp':=fun i=>if fr<=i/\i<(unpack fr res).2.2 then p i else fp i) (w':=w') (by omega) hb.size hb.os hb.tape hb.output (fun b hb' _=>hb.block b hb') ?_ ?_ ?_ ?_ ?_ ?_ ?_ ?_
 ·refine ⟨_,_,by rw [c1];exact main.1,?_⟩
  have:=g1 (unpack fr res).2.2 (Lk.upd st (unpack fr res).2.1) (fun i=>if fr<=i/\i<(unpack fr res).2.2 then l i else loc i) (aP _) (fun id h1 h2=>⟨by rw [b1,if_pos ⟨h1,h2⟩],by simp [h1,h2]⟩)
  refine this.stable (by simp) (fun b hb'=>⟨?_,rfl⟩) (fun _ _ h=>h)
  rcases hF0 b hb' with h|⟨h1,h2,h3⟩
  ·exact (main.2.1 b h).1
  ·refine ⟨h2,fun h=>by have:=hr.base;omega,fun id=>?_⟩
   by_cases h:fr<=id/\id<(unpack fr res).2.2
   ·simp only [h,and_self,if_true]
    exact fun hb2=>h3 ((d1 id h.1 h.2).2.2.2 b hb2)
   ·simp only [h,if_false]
    exact fun hb2=>by have:=hr.lt id b hb2;omega
 ·intro id hid
  exact ⟨by rw [b1,if_neg hid],by simp [hid],by simp [hid]⟩
 ·intro hfz id hid _
  obtain ⟨h1,h2,h3,h4⟩:=d1 id hid.1 hid.2
  rw [b1,if_pos hid]
  simp only [hid,and_self,if_true]
  refine h2.stable (fun _ _=>rfl) (fun b hb'=>⟨?_,rfl⟩) (fun _ _ h=>h)
  rcases hF0 b hb' with h|⟨h1,h2,h3⟩
  ·exact (hfz b h).1
  ·refine ⟨h2,fun h=>by have:=hr.base;omega,fun id=>?_⟩
   by_cases h:fr<=id/\id<(unpack fr res).2.2
   ·simp only [h,and_self,if_true]
    exact fun hb2=>h3 ((d1 id h.1 h.2).2.2.2 b hb2)
   ·simp only [h,if_false]
    exact fun hb2=>by have:=hr.lt id b hb2;omega
 ·intro id hid hd
  rw [b1,if_pos hid] at hd
  exact absurd hd (d1 id hid.1 hid.2).1
 ·intro id hid hge;omega
 ·intro id hid b hb'
  simp only [hid,and_self,if_true] at hb'
  have:=(d1 id hid.1 hid.2).2.2.2 b hb'
  exact .inl ⟨hfs b this,hlt b this⟩
 ·intro id hid
  simp only [hid,and_self,if_true]
  exact (d1 id hid.1 hid.2).2.2.1
 ·intro i j hi hj hij b hb' hb2
  simp only [hi,and_self,if_true] at hb'
  simp only [hj,and_self,if_true] at hb2
  exact e1 i j hi.1 hi.2 hj.1 hj.2 hij b hb' hb2
 ·intro v rv id hv _ hid hx
  obtain ⟨id',h1,h2⟩:=hv.isRef
  rw [hid] at h1;cases h1
  omega
theorem OW.free {F:Nat->Prop} {h:Hp} {R:HV->Value->Prop} {vs rvs fs} (o:OW F h R vs rvs fs) (hf:aI vs=true):OW F h dA (bI bn st vs) rvs []:=by
 induction o with
 | nil=>exact .nil
 | @leaf R v rv r rr fs a b c d e f g _ ih =>
  simp only [aI,aG] at hf
  cases v<;>simp [fH] at a b c d e f
  ·simp [HV.refFree] at hf
  ·simp [HV.refFree] at hf
  ·exact .dead (ih hf.2)
  ·simp [HV.refFree] at hf
  ·exact absurd rfl (c _ _ _ _ rfl rfl rfl)
 | int _ ih=>simp only [aI,aG] at hf;exact .int (ih hf.2)
 | bool _ ih=>simp only [aI,aG] at hf;exact .bool (ih hf.2)
 | str _ ih=>simp only [aI,aG] at hf;exact .str (ih hf.2)
 | nils _ ih=>simp only [aI,aG] at hf;exact .nils (ih hf.2)
 | nilp _ ih=>simp only [aI,aG] at hf;exact .nilp (ih hf.2)
 | nilf _ ih=>simp only [aI,aG] at hf;exact .nilf (ih hf.2)
 | dead _ ih=>simp only [aI,aG] at hf;exact .dead (ih hf.2)
 | sl0 _ ih=>simp only [aI,aG] at hf;exact .sl0 (ih hf.2)
 | sl a b c d e _ _ ih=>simp only [aI,aG] at hf;exact .sl a b c d e (ih hf.2)
 | osl0 _ ih=>simp [aI,HV.refFree] at hf
 | osl=>simp [aI,HV.refFree] at hf
 | ptr a b c d _ _ ih=>simp only [aI,aG] at hf;exact .ptr a b c d (ih hf.2)
 | optr=>simp [aI,HV.refFree] at hf
 | nilm _ ih=>simp only [aI,aG] at hf;exact .nilm (ih hf.2)
 | rmap a b c d _ _ ih=>simp only [aI,aG] at hf;exact .rmap a b c d (ih hf.2)
 | omap=>simp [aI,HV.refFree] at hf
 | oitr=>simp [aI,HV.refFree] at hf
 | agg _ _ ih1 ih2=>simp only [aI,aG,HV.refFree] at hf;exact .agg (ih1 hf.1) (ih2 hf.2)
 | tup _ _ ih1 ih2=>simp only [aI,aG,HV.refFree] at hf;exact .tup (ih1 hf.1) (ih2 hf.2)
 | fn _ _ ih1 ih2=>simp only [aI,aG,HV.refFree] at hf;exact .fn (ih1 hf.1) (ih2 hf.2)
theorem OW.noRd {F F':Nat->Prop} {h:Hp} {R:HV->Value->Prop} {vs rvs fs} (o:OW F h R vs rvs fs) (hf:eu vs=true):OW F' h R vs rvs fs:=by
 induction o with
 | nil=>exact .nil
 | leaf a b c d e f g _ ih=>simp only [eu,aG] at hf;exact .leaf a b c d e f g (ih hf.2)
 | int _ ih=>simp only [eu,aG] at hf;exact .int (ih hf.2)
 | bool _ ih=>simp only [eu,aG] at hf;exact .bool (ih hf.2)
 | str _ ih=>simp only [eu,aG] at hf;exact .str (ih hf.2)
 | nils _ ih=>simp only [eu,aG] at hf;exact .nils (ih hf.2)
 | nilp _ ih=>simp only [eu,aG] at hf;exact .nilp (ih hf.2)
 | nilf _ ih=>simp only [eu,aG] at hf;exact .nilf (ih hf.2)
 | dead _ ih=>simp only [eu,aG] at hf;exact .dead (ih hf.2)
 | sl0 _ ih=>simp only [eu,aG] at hf;exact .sl0 (ih hf.2)
 | sl a b c d e _ _ ih =>
  simp only [eu,aG,HV.noRd,beq_iff_eq,qc] at hf
  obtain ⟨⟨rfl,rfl⟩,h2⟩:=hf
  exact .sl0 (ih h2)
 | osl0 _ ih=>simp only [eu,aG] at hf;exact .osl0 (ih hf.2)
 | osl a b c d e f _ _ ih1 ih2=>simp only [eu,aG,HV.noRd] at hf;exact .osl a b c d e f (ih1 hf.1) (ih2 hf.2)
 | ptr=>simp [eu,HV.noRd] at hf
 | optr a _ _ ih1 ih2=>simp only [eu,aG,HV.noRd] at hf;exact .optr a (ih1 hf.1) (ih2 hf.2)
 | nilm _ ih=>simp only [eu,aG] at hf;exact .nilm (ih hf.2)
 | rmap=>simp [eu,HV.noRd] at hf
 | omap a b _ _ ih1 ih2=>simp only [eu,aG,HV.noRd] at hf;exact .omap a b (ih1 hf.1) (ih2 hf.2)
 | oitr a _ ih=>simp only [eu,aG] at hf;exact .oitr a (ih hf.2)
 | agg _ _ ih1 ih2=>simp only [eu,aG,HV.noRd] at hf;exact .agg (ih1 hf.1) (ih2 hf.2)
 | tup _ _ ih1 ih2=>simp only [eu,aG,HV.noRd] at hf;exact .tup (ih1 hf.1) (ih2 hf.2)
 | fn _ _ ih1 ih2=>simp only [eu,aG,HV.noRd] at hf;exact .fn (ih1 hf.1) (ih2 hf.2)
theorem y5 (hr:Rel E N sl st loc fp a w) (hfr:N<=fr) {f:FuncId} {vs:List HV} {rvs:List Value} (hv:OW (dX E fp w) w.heap (RefR N st loc w.heap) vs rvs []) {K:HV->Prop} (hC:HT P f (bI bn st vs) fun r=>(aI vs || r.noRd)=true/\K r) :
  Calls P f rvs.toArray w (fun e w'=>∃rv res,e=.returned rv/\K res/\fr<=(unpack fr res).2.2/\After E (unpack fr res).2.2 sl st (unpack fr res).2.1 (unpack fr res).1 rv a w'):=by
 by_cases hf:aI vs=true
 ·refine (hC.2 w rvs (dX E fp w) (fun b hb=>hb.1) (hv.free hf)).mono ?_
  rintro e w' ⟨rv,res,fs,rfl,⟨_,hK⟩,ho,hnd,hfs,hb⟩
  exact ⟨rv,res,rfl,hK,hr.back hfr hb (fun b h=>h) ho hnd hfs⟩
 ·refine (hC.2 w rvs (fun b=>b<w.heap.size) (fun b hb=>hb) (OW.thaw hr bn (fun b hb=>hb.1) (fun id _ b hb=>hr.lt id b hb) (fun _ _ _ _ _ h=>by cases h) hv rfl rfl)).mono ?_
  rintro e w' ⟨rv,res,fs,rfl,⟨hn,hK⟩,ho,hnd,hfs,hb⟩
  simp only [hf,Bool.false_or] at hn
  exact ⟨rv,res,rfl,hK,hr.back hfr (F0:=fun _=>False) hb (fun b h=>h.elim) (ho.noRd (by simp [eu,hn])) hnd hfs⟩
end
def aA (P:Program) (T:Nat->Bool) (o:Oper):HOper:=⟨o.dst,if o.dst.all (fun d=>T d) then aC P o else .bad,o.guard⟩
theorem jT {P:Program} {f:FuncId} {w:World} (h:zB P f) (args:Array Value):(callFunc f args).run P w=.ok (.enter f args) w:=by
 obtain ⟨fn,h1,h2,h3⟩:=h
 have h4:fn.body.isNone=false:=by cases hb:fn.body<;>simp [hb] at h2 ⊢
 simp only [callFunc,Sem.run_bind,run_program,Result.andThen_ok,h1]
 simp [h3,h4]
theorem sK {P:Program} {o:Oper} {f:FuncId} {xs:List HX} (h:aC P o=.call f xs):∃c,o.op=.call c/\c.callee=.value (.func f)/\xs=c.args.toList.map dw:=by
 unfold aC at h
 repeat' split at h
 all_goals (first|(cases h;done)|(unfold yl at h;split at h<;>(cases h;done))|(unfold qx at h;split at h<;>(cases h;done))|skip)
 cases h
 exact ⟨_,‹_›,‹_›,rfl⟩
theorem pF {P:Program} {o:Oper} {x:HX} {xs:List HX} (h:aC P o=.callv x xs):∃c t,o.op=.call c/\c.callee=.value (.tmp t)/\x=.t t/\xs=c.args.toList.map dw:=by
 unfold aC at h
 repeat' split at h
 all_goals (first|(cases h;done)|(unfold yl at h;split at h<;>(cases h;done))|(unfold qx at h;split at h<;>(cases h;done))|skip)
 cases h
 exact ⟨_,_,‹_›,‹_›,rfl,rfl⟩
section
variable {P:Program} {E:Fr} {N fr:Nat} {a:Act} {w:World}
theorem SRel.done {s:St} {us:List dJ} {v:HV} {rv:Value} {d:Option Nat} (h:After E N s.S s.M us v rv a w) (hd:∀t,d=some t->E.ok t=true):SRel E N ((s.upd us).put d v) (a.put d rv) w:=by
 obtain ⟨loc,fp,h1,h2⟩:=h
 have:=h1.put d hd h2
 refine ⟨loc,fp,?_⟩
 rw [St.put_S,St.put_M,St.upd_S,St.upd_M]
 exact this
theorem SRel.up {s:St} {N':Nat} (h:SRel E N s a w) (hN:N<=N'):SRel E N' s a w:=by
 obtain ⟨loc,fp,h⟩:=h
 exact ⟨loc,fp,h.up hN⟩
theorem J4 {s:St} {i:Nat} {o:Oper} {K:St->Prop} {next:Act->World->Prop} {Q:Exit->Act->World->Prop} (hr:SRel E (s.nx+stride*i) s a w) (h:hop0 (HT P) s i (aA P E.ok o) K)
  (hn:∀s' a' w',s'.nx=s.nx->SRel E (s.nx+stride*(i+1)) s' a' w'->K s'->next a' w'):o.wp P a w next Q:=by
 obtain ⟨loc,fp,hr⟩:=hr
 have hM:(fun i=>au i s.st)=s.M:=rfl
 have hstr:s.nx+stride*i+1<=s.nx+stride*(i+1):=by unfold stride;omega
 unfold hop0 aA at h
 by_cases hd:(o.dst.all fun d=>E.ok d)=true
 ·have hdt:∀t,o.dst=some t->E.ok t=true:=fun t ht=>by simpa [ht] using hd
  simp only [hd,if_true,kV,hM] at h
  have plain:(aC P o).isCall=false->(ae s.M (s.nx+stride*i) ((aC P o).map (bT s.S))).2.2->K ((s.upd (ae s.M (s.nx+stride*i) ((aC P o).map (bT s.S))).2.1).put o.dst (ae s.M (s.nx+stride*i) ((aC P o).map (bT s.S))).1)->o.wp P a w next Q:=by
   intro hnc hvc hK
   obtain ⟨rv,w',h1,h2⟩:=FW hr (aP _) o hnc hvc
   have hS:=(SRel.done h2 hdt).up hstr
   have hnext:=hn _ _ _ (by rw [St.put_nx,St.upd_nx]) hS hK
   unfold Oper.wp
   rcases h1 with h1|⟨h1,rfl⟩
   ·rw [h1];exact hnext
   ·rw [h1];exact hnext
  have callgen:∀ (f:FuncId) (vs:List HV) (rvs:List Value),(execOp a.eval o).run P w=(callFunc f rvs.toArray).run P w->OW (dX E fp w) w.heap (RefR (s.nx+stride*i) s.M loc w.heap) vs rvs [] ->
    (HT P f (bI bn s.M vs) fun r=>(aI vs || r.noRd)=true/\(unpack (s.nx+stride*i) r).2.2<=s.nx+stride*(i+1)/\K ((s.upd (unpack (s.nx+stride*i) r).2.1).put o.dst (unpack (s.nx+stride*i) r).1))->o.wp P a w next Q:=by
   intro f vs rvs hrun hv hC
   unfold Oper.wp
   rw [hrun,jT hC.1]
   rw [Oper.upon_enter]
   refine (y5 hr (aP _) hv hC).mono ?_
   rintro e w' ⟨rv,res,rfl,⟨hle,hK⟩,_,hA⟩
   exact hn _ _ _ (by rw [St.put_nx,St.upd_nx]) ((SRel.done hA hdt).up hle) hK
  cases hop':aC P o with
  | call f xs =>
   rw [hop'] at h
   simp only [HOp.map] at h
   obtain ⟨c,hc,hcal,rfl⟩:=sK hop'
   refine callgen f (c.args.toList.map fun x=>bT s.S (dw x)) (c.args.toList.map a.eval) ?_ (hr.vals _) (by rw [iG] at h;exact h)
   have e1:(#[]:Array Value)++c.args.map a.eval++#[]=(c.args.toList.map a.eval).toArray:=by apply qV;simp
   have e2:a.eval (.func f)=.func (.func f) #[] #[]:=rfl
   simp only [execOp,hc,resolve,hcal,e2,Deferred.ofValue,Sem.run_bind,Sem.run_pure,Result.andThen_ok,invoke,e1]
  | callv x xs =>
   rw [hop'] at h
   simp only [HOp.map] at h
   obtain ⟨c,t,hc,hcal,rfl,rfl⟩:=pF hop'
   have hval:=hr.val (.tmp t)
   simp only [dw] at hval
   generalize bT s.S (.t t)=fv at *
   cases fv<;>simp only at h<;>(first|exact h.1.elim|skip)
   rename_i f cap
   obtain ⟨rcap,hfe,hcap⟩:=Ae hval
   have hv:=(hr.vals c.args.toList).append hcap
   simp only [List.append_nil] at hv
   refine callgen f (c.args.toList.map (fun x=>bT s.S (dw x))++cap) (c.args.toList.map a.eval++rcap) ?_ hv (by rw [iG] at h;exact h)
   have e1:(#[]:Array Value)++c.args.map a.eval++rcap.toArray=(c.args.toList.map a.eval++rcap).toArray:=by apply qV;simp
   simp only [execOp,hc,resolve,hcal,hfe,Deferred.ofValue,Sem.run_bind,Sem.run_pure,Result.andThen_ok,invoke,e1]
  | _ =>
   rw [hop'] at h
   rw [hop'] at plain
   exact plain rfl h.1 h.2
 ·simp only [hd] at h
  exact h.1.elim
def IR (P:Program) (s:St) (i:Nat) (d:Option Nat) (op:HOp HX) (K:St->Prop):Prop :=
 ∀ (E:Fr) (ro:Oper) (a:Act) (w:World) (next:Act->World->Prop) (Q:Exit->Act->World->Prop),(aA P E.ok ro).dst=d->(aA P E.ok ro).op=op->SRel E (s.nx+stride*i) s a w ->
  (∀s' a' w',s'.nx=s.nx->SRel E (s.nx+stride*(i+1)) s' a' w'->K s'->next a' w')->ro.wp P a w next Q
theorem Hf {P:Program} {s:St} {i:Nat} {d:Option Nat} {op:HOp HX} {K K':St->Prop} (h:IR P s i d op K) (hk:∀s,K s->K' s):IR P s i d op K' :=
 fun E ro a w next Q hd ho hr hn=>h E ro a w next Q hd ho hr fun s' a' w' h1 h2 h3=>hn s' a' w' h1 h2 (hk _ h3)
def HS (P:Program):CallSpec:=⟨HT P,IR P⟩
theorem pR {s:St} {i:Nat} {o:Oper} {K:St->Prop} {next:Act->World->Prop} {Q:Exit->Act->World->Prop} (hr:SRel E (s.nx+stride*i) s a w) (h:hop (HS P) s i (aA P E.ok o) K)
  (hn:∀s' a' w',s'.nx=s.nx->SRel E (s.nx+stride*(i+1)) s' a' w'->K s'->next a' w'):o.wp P a w next Q:=by
 rcases h with h|h
 ·exact J4 hr h hn
 ·exact h E o a w next Q rfl rfl hr hn
end
section
variable {P:Program} {E:Fr} {N:Nat} {sl st:Lk} {loc:Nat->Value} {fp:Nat->List Nat} {a:Act} {w:World}
structure TakenD (E:Fr) (fp:Nat->List Nat) (w:World) (st:Lk) (L:Lk) (ts:List HV) (rvs:List Value) (us:List dJ) (ff ids:List Nat):Prop where
 own:OW (dX E fp w) w.heap dA ts rvs ff
 nodup:ff.Nodup
 alive:∀id∈ids,L id=st id/\st id≠.dead
 from_:∀b∈ff,∃id∈ids,b∈fp id
 upd:∀id,Lk.upd L us id=if id∈ids then .dead else L id
theorem Taken.toD {L:Lk} {ts:List HV} {rvs:List Value} {us:List dJ} {ff ids:List Nat} (T:Taken E fp w st L ts rvs us ff ids):TakenD E fp w st L ts rvs us ff ids:=⟨T.own,T.nodup,T.alive,T.from_,T.upd⟩
theorem TakenD.app (hr:Rel E N sl st loc fp a w) {L:Lk} {t1 t2:List HV} {r1 r2:List Value} {u1 u2:List dJ} {f1 f2 i1 i2:List Nat} (T:TakenD E fp w st L t1 r1 u1 f1 i1) (T2:TakenD E fp w st (Lk.upd L u1) t2 r2 u2 f2 i2) :
  TakenD E fp w st L (t1++t2) (r1++r2) (u1++u2) (f1++f2) (i1++i2):=by
 have dis:∀id∈i1,id ∉ i2:=fun id h1 h2=>by
  have h3:=T2.alive id h2
  rw [T.upd,if_pos h1] at h3
  exact h3.2 h3.1.symm
 refine ⟨T.own.append T2.own,?_,?_,?_,?_⟩
 ·rw [zl007]
  refine ⟨T.nodup,T2.nodup,fun b h1 c h2 hbc=>?_⟩
  subst hbc
  obtain ⟨i,hi,hb1⟩:=T.from_ b h1
  obtain ⟨j,hj,hb2⟩:=T2.from_ b h2
  exact hr.apart i j (fun e=>dis i hi (e▸hj)) b hb1 hb2
 ·intro id hid
  rcases zl001.1 hid with h|h
  ·exact T.alive id h
  ·have:=T2.alive id h
   rw [T.upd,if_neg (fun h'=>dis id h' h)] at this
   exact this
 ·intro b hb
  rcases zl001.1 hb with h|h
  ·obtain ⟨i,hi,h'⟩:=T.from_ b h;exact ⟨i,by simp [hi],h'⟩
  ·obtain ⟨i,hi,h'⟩:=T2.from_ b h;exact ⟨i,by simp [hi],h'⟩
 ·intro id
  rw [bQ,T2.upd,T.upd]
  by_cases h1:id∈i1<;>by_cases h2:id∈i2<;>simp [h1,h2]
theorem iJ (hr:Rel E N sl st loc fp a w) {vs:List HV} {rvs:List Value} {R:HV->Value->Prop} {fs:List Nat} (o:OW (dX E fp w) w.heap R vs rvs fs) (hR:R=RefR N st loc w.heap) (hfs:fs=[]) :
  ∀L:Lk,(∀id,L id=st id\/L id=.dead)->(ak L vs).2.2->∃ff ids,TakenD E fp w st L (ak L vs).1 rvs (ak L vs).2.1 ff ids:=by
 have step:∀ {L:Lk} {v:HV} {rv:Value} {r:List HV} {rr:List Value},(∀id,L id=st id\/L id=.dead)->(∃ff ids,TakenD E fp w st L [(takeD L v).1] [rv] (takeD L v).2.1 ff ids) ->
   (∀L:Lk,(∀id,L id=st id\/L id=.dead)->(ak L r).2.2->∃ff ids,TakenD E fp w st L (ak L r).1 rr (ak L r).2.1 ff ids)->(ak L (v::r)).2.2->∃ff ids,TakenD E fp w st L (ak L (v::r)).1 (rv::rr) (ak L (v::r)).2.1 ff ids:=by
  intro L v rv r rr hL ⟨ff,ids,T⟩ ih hvc
  simp only [ak] at hvc ⊢
  obtain ⟨ff2,ids2,T2⟩:=ih (Lk.upd L (takeD L v).2.1) (fun id=>by
   rw [T.upd];split
   ·exact .inr rfl
   ·exact hL id) hvc.2
  exact ⟨_,_,T.app hr T2⟩
 have atom:∀ {L:Lk} {v:HV} {rv:Value},(∀id,L id=st id\/L id=.dead)->takeD L v=takeC L v->V E N st loc fp w v rv->(takeD L v).2.2->∃ff ids,TakenD E fp w st L [(takeD L v).1] [rv] (takeD L v).2.1 ff ids:=by
  intro L v rv hL he hv hvc
  rw [he] at hvc ⊢
  obtain ⟨ff,ids,T⟩:=uH hr hL hv hvc
  exact ⟨ff,ids,T.toD⟩
 induction o with
 | nil=>intro L _ _;exact ⟨[],[],.nil,by simp,by simp,by simp,by simp [ak,Lk.upd]⟩
 | @leaf R v rv r rr fs a b c d e f g _ ih =>
  intro L hL hvc
  refine step hL ?_ (ih hR hfs) hvc
  simp only [ak] at hvc
  subst hR
  cases v<;>simp [fH] at a b c d e f
  ·exact atom hL rfl (cZ rfl g) hvc.1
  ·exact atom hL rfl (cZ rfl g) hvc.1
  ·exact ⟨[],[],.dead .nil,by simp,by simp,by simp,by simp [takeD,Lk.upd]⟩
  ·exact atom hL rfl (cZ rfl g) hvc.1
  ·exact absurd rfl (c _ _ _ _ rfl rfl rfl)
 | int _ ih=>intro L hL hvc;refine step hL ?_ (ih hR hfs) hvc;simp only [ak] at hvc;exact atom hL rfl (.int .nil) hvc.1
 | bool _ ih=>intro L hL hvc;refine step hL ?_ (ih hR hfs) hvc;simp only [ak] at hvc;exact atom hL rfl (.bool .nil) hvc.1
 | str _ ih=>intro L hL hvc;refine step hL ?_ (ih hR hfs) hvc;simp only [ak] at hvc;exact atom hL rfl (.str .nil) hvc.1
 | nils _ ih=>intro L hL hvc;refine step hL ?_ (ih hR hfs) hvc;simp only [ak] at hvc;exact atom hL rfl (.nils .nil) hvc.1
 | nilp _ ih=>intro L hL hvc;refine step hL ?_ (ih hR hfs) hvc;simp only [ak] at hvc;exact atom hL rfl (.nilp .nil) hvc.1
 | nilf _ ih=>intro L hL hvc;refine step hL ?_ (ih hR hfs) hvc;simp only [ak] at hvc;exact atom hL rfl (.nilf .nil) hvc.1
 | dead _ ih=>intro L hL hvc;exact step hL ⟨[],[],.dead .nil,by simp,by simp,by simp,by simp [takeD,Lk.upd]⟩ (ih hR hfs) hvc
 | sl0 _ ih=>intro L hL hvc;refine step hL ?_ (ih hR hfs) hvc;simp only [ak] at hvc;exact atom hL rfl (.sl0 .nil) hvc.1
 | sl a b c d e _ _ ih=>intro L hL hvc;refine step hL ?_ (ih hR hfs) hvc;simp only [ak] at hvc;exact atom hL rfl (.sl a b c d e .nil) hvc.1
 | osl0 _ ih=>intro L hL hvc;refine step hL ?_ (ih hR hfs) hvc;simp only [ak] at hvc;exact atom hL rfl (.osl0 .nil) hvc.1
 | osl=>simp at hfs
 | ptr a b c d _ _ ih=>intro L hL hvc;refine step hL ?_ (ih hR hfs) hvc;simp only [ak] at hvc;exact atom hL rfl (.ptr a b c d .nil) hvc.1
 | optr=>simp at hfs
 | nilm _ ih=>intro L hL hvc;refine step hL ?_ (ih hR hfs) hvc;simp only [ak] at hvc;exact atom hL rfl (.nilm .nil) hvc.1
 | rmap a b c d _ _ ih=>intro L hL hvc;refine step hL ?_ (ih hR hfs) hvc;simp only [ak] at hvc;exact atom hL rfl (.rmap a b c d .nil) hvc.1
 | omap=>simp at hfs
 | oitr=>simp at hfs
 | agg _ _ ih1 ih2 =>
  obtain ⟨rfl,rfl⟩:_=[]/\_=[]:=by simpa using hfs
  intro L hL hvc
  refine step hL ?_ (ih2 hR rfl) hvc
  simp only [ak,takeD] at hvc
  obtain ⟨ff,ids,T⟩:=ih1 hR rfl L hL hvc.1
  exact ⟨ff,ids,by simpa [takeD] using OW.agg T.own .nil,T.nodup,T.alive,T.from_,T.upd⟩
 | tup _ _ ih1 ih2 =>
  obtain ⟨rfl,rfl⟩:_=[]/\_=[]:=by simpa using hfs
  intro L hL hvc
  refine step hL ?_ (ih2 hR rfl) hvc
  simp only [ak,takeD] at hvc
  obtain ⟨ff,ids,T⟩:=ih1 hR rfl L hL hvc.1
  exact ⟨ff,ids,by simpa [takeD] using OW.tup T.own .nil,T.nodup,T.alive,T.from_,T.upd⟩
 | fn _ _ ih1 ih2 =>
  obtain ⟨rfl,rfl⟩:_=[]/\_=[]:=by simpa using hfs
  intro L hL hvc
  refine step hL ?_ (ih2 hR rfl) hvc
  simp only [ak,takeD] at hvc
  obtain ⟨ff,ids,T⟩:=ih1 hR rfl L hL hvc.1
  exact ⟨ff,ids,by simpa [takeD] using OW.fn T.own .nil,T.nodup,T.alive,T.from_,T.upd⟩
mutual
theorem H6:∀ (L:Lk) (v:HV),∀u∈(takeD L v).2.1,∃id t,u=.put id t
 | L,.agg cs=>by unfold takeD;exact jg L cs
 | L,.tup cs=>by unfold takeD;exact jg L cs
 | L,.fn f cs=>by unfold takeD;exact jg L cs
 | L,.dead=>by simp [takeD]
 | L,.int ..=>by simp [takeD,takeC]
 | L,.bool _=>by simp [takeD,takeC]
 | L,.str _=>by simp [takeD,takeC]
 | L,.nils=>by simp [takeD,takeC]
 | L,.nilp=>by simp [takeD,takeC]
 | L,.nilf=>by simp [takeD,takeC]
 | L,.sl ..=>by simp [takeD,takeC]
 | L,.osl ..=>by simp [takeD,takeC]
 | L,.ptr ..=>by simp [takeD,takeC]
 | L,.optr _=>by simp [takeD,takeC]
 | L,.nilm=>by simp [takeD,takeC]
 | L,.rmap ..=>by simp [takeD,takeC]
 | L,.omap ..=>by simp [takeD,takeC]
 | L,.oitr ..=>by simp [takeD,takeC]
 | L,.mref id p=>by
  unfold takeD takeC
  intro u hu
  repeat' split at hu
  all_goals simp_all
 | L,.ref id p sz off n=>by
  unfold takeD takeC
  intro u hu
  repeat' split at hu
  all_goals simp_all
 | L,.pref id p off=>by
  unfold takeD takeC
  intro u hu
  repeat' split at hu
  all_goals simp_all
theorem jg:∀ (L:Lk) (vs:List HV),∀u∈(ak L vs).2.1,∃id t,u=.put id t
 | L,[]=>by simp [ak]
 | L,v::r=>by
  unfold ak
  intro u hu
  rcases zl001.1 hu with h|h
  ·exact H6 L v u h
  ·exact jg _ r u h
end
theorem OW.each {F:Nat->Prop} {h:Hp} {R:HV->Value->Prop} {vs:List HV}:∀ {rvs:List Value} {fs:List Nat},OW F h R vs rvs fs->fs.Nodup->∃q:Nat->List Nat,(∀k,k<vs.length->OW F h R [vs.getD k .dead] [rvs.getD k undef] (q k)/\(q k).Nodup/\∀b∈q k,b∈fs)/\∀i j,i<vs.length->j<vs.length->i≠j->∀b∈q i,b ∉ q j:=by
 induction vs with
 | nil=>intro rvs fs _ _;exact ⟨fun _=>[],⟨fun k hk=>absurd hk (AU _),fun i j hi=>absurd hi (AU _)⟩⟩
 | cons v vs ih =>
  intro rvs fs o hnd
  cases rvs with
  | nil=>exact absurd o.length (by simp)
  | cons rv rvs =>
   obtain ⟨f1,f2,rfl,o1,o2⟩:=o.split1
   rw [zl007] at hnd
   obtain ⟨q,h1,h2⟩:=ih o2 hnd.2.1
   refine ⟨fun k=>match k with|0=>f1|k+1=>q k,⟨fun k hk=>?_,fun i j hi hj hij=>?_⟩⟩
   ·cases k with
    | zero=>exact ⟨by simpa using o1,hnd.1,fun b hb=>by simp [hb]⟩
    | succ k =>
     obtain ⟨a1,a2,a3⟩:=h1 k (by simpa using hk)
     exact ⟨by simpa using a1,a2,fun b hb=>by simp [a3 b hb]⟩
   ·cases i with
    | zero =>
     cases j with
     | zero=>exact absurd rfl hij
     | succ j=>exact fun b hb hb'=>hnd.2.2 b hb b ((h1 j (by simpa using hj)).2.2 b hb') rfl
    | succ i =>
     cases j with
     | zero=>exact fun b hb hb'=>hnd.2.2 b hb' b ((h1 i (by simpa using hi)).2.2 b hb) rfl
     | succ j=>exact h2 i j (by simpa using hi) (by simpa using hj) (by omega)
theorem zg {L0:Lk} (hL0:∀id,L0 id=st id\/L0 id=.dead) {us:List dJ} {ids:List Nat} (h:∀id,Lk.upd L0 us id=if id∈ids then .dead else L0 id) (id:Nat):Lk.upd L0 us id=st id\/Lk.upd L0 us id=.dead:=by
 rw [h]
 split
 ·exact .inr rfl
 ·exact hL0 id
theorem rZ (hr:Rel E N sl st loc fp a w) {id off:Nat}:∀ {vs:List HV} {rvs:List Value},OW (dX E fp w) w.heap (RefR N st loc w.heap) vs rvs []->∀ (L:Lk),(∀id,L id=st id\/L id=.dead)->(ak L vs).2.2->∀j:Nat,vs[j]?=some (HV.pref id [] off) ->
  off=0/\(∃cs,st id=.optr cs)/\Lk.upd L (ak L vs).2.1 id=.dead:=by
 intro vs
 induction vs with
 | nil=>intro rvs _ L _ _ j hj;simp at hj
 | cons v vs ih =>
  intro rvs o L hL hs j hj
  cases rvs with
  | nil=>exact absurd o.length (by simp)
  | cons rv rvs =>
   obtain ⟨f1,f2,hf,o1,o2⟩:=o.split1
   obtain ⟨rfl,rfl⟩:f1=[]/\f2=[]:=by simpa using hf.symm
   have hs0:=hs
   simp only [ak] at hs ⊢
   rw [bQ]
   have s1:(ak L [v]).2.2:=by simp only [ak];exact ⟨hs.1,trivial⟩
   obtain ⟨ff,ids,T⟩:=iJ hr o1 rfl rfl L hL s1
   have e1:(ak L [v]).2.1=(takeD L v).2.1:=by simp [ak]
   rw [e1] at T
   have hL2:=zg hL T.upd
   obtain ⟨ff2,ids2,T2⟩:=iJ hr o2 rfl rfl _ hL2 hs.2
   cases j with
   | zero =>
    simp only [List.getElem?_cons_zero,bY] at hj
    subst hj
    have h1:=hs.1
    simp only [takeD,takeC] at h1
    cases hLi:L id<;>rw [hLi] at h1<;>simp only at h1<;>(first|exact h1.elim|skip)
    rename_i cs
    refine ⟨h1,⟨cs,?_⟩,?_⟩
    ·rcases hL id with h|h
     ·rw [<- h,hLi]
     ·rw [hLi] at h;cases h
    ·rw [T2.upd]
     split
     ·rfl
     ·simp [takeD,takeC,hLi,Lk.upd]
   | succ j =>
    simp only [List.getElem?_cons_succ] at hj
    exact ih o2 _ hL2 hs.2 j hj
def HTI (P:Program) (f:FuncId) (args:List HV) (io:List Nat) (K:HV->List HV->Prop):Prop:=zB P f /\
 ∀ (w:World) (rargs:List Value) (F:Nat->Prop) (fa:List Nat),(∀b,F b->b<w.heap.size)->OW F w.heap dA args rargs fa->fa.Nodup->(∀b∈fa,¬ F b) ->
  Calls P f rargs.toArray w (fun e w'=>∃rv res outs fs,e=.returned rv/\K res outs/\OW (fun b=>F b\/((b<w.heap.size->b∈fa)/\b<w'.heap.size/\b ∉ fs)) w'.heap dA (res::outs) (rv::io.map fun j=>rargs.getD j undef) fs/\fs.Nodup/\(∀b∈fs,w.heap.size<=b\/b∈fa)/\BelowG w.heap.size (fun b=>b∈fa) w w')
theorem HTI.mono {f:FuncId} {args:List HV} {io:List Nat} {K K':HV->List HV->Prop} (h:HTI P f args io K) (hk:∀r o,K r o->K' r o):HTI P f args io K' :=
 ⟨h.1,fun w rargs F fa h1 h2 h3 h4=>(h.2 w rargs F fa h1 h2 h3 h4).mono fun e w' ⟨rv,res,outs,fs,a,b,c⟩=>⟨rv,res,outs,fs,a,hk _ _ b,c⟩⟩
abbrev HTM (P:Program) (f:FuncId) (args:List HV) (K:HV->Prop):Prop:=HTI P f args [] fun r _=>K r
def iF (ids:List Nat) (outs:List HV):List dJ:=(ids.zip outs).map fun p=>.put p.1 p.2
def kills (ids:List Nat):List dJ:=ids.map fun id=>.kill id 0
theorem Dn (L:Lk) (ids:List Nat):Lk.upd L (kills ids)=L:=by
 unfold kills
 induction ids generalizing L with
 | nil=>rfl
 | cons i ids ih=>exact ih L
theorem CZ {ids:List Nat}:∀ {outs:List HV} (L:Lk),outs.length=ids.length->ids.Nodup->(∀k,k<ids.length->Lk.upd L (iF ids outs) (ids.getD k 0)=outs.getD k .dead)/\∀id,id ∉ ids->Lk.upd L (iF ids outs) id=L id:=by
 induction ids with
 | nil=>intro outs L _ _;exact ⟨fun k hk=>absurd hk (AU _),fun id _=>rfl⟩
 | cons i ids ih =>
  intro outs L hl hnd
  cases outs with
  | nil=>cases hl
  | cons o outs =>
   rw [zl027] at hnd
   obtain ⟨h1,h2⟩:=ih (outs:=outs) (fun j=>if j=i then o else L j) (by simpa using hl) hnd.2
   have e:Lk.upd L (iF (i::ids) (o::outs))=Lk.upd (fun j=>if j=i then o else L j) (iF ids outs):=rfl
   rw [e]
   refine ⟨fun k hk=>?_,fun id hid=>?_⟩
   ·cases k with
    | zero =>
     have:=h2 i hnd.1
     simp only [if_true] at this
     simpa using this
    | succ k=>simpa using h1 k (by simpa using hk)
   ·simp only [zl008,not_or] at hid
    rw [h2 id hid.2,if_neg hid.1]
theorem FN {F:Nat->Prop} {h:Hp} {ids:List Nat}:∀ {R:HV->Value->Prop} {sl:Lk} {tm:Array Value},(∀t,OW F h R [sl t] [tm.getD t undef] []) ->
  ∀t,OW F h (fun v rv=>R v rv/\∀id∈ids,∀p,(∃sz o n,v=.ref id p sz o n)\/(∃o,v=.pref id p o)\/v=.mref id p->¬ 0<p.length) [qF sl (kills ids) t] [tm.getD t undef] []:=by
 induction ids with
 | nil=>intro R sl tm h t;exact (h t).stable (fun _ _=>rfl) (fun _ h=>⟨h,rfl⟩) fun _ _ h=>⟨h,by simp⟩
 | cons i ids ih =>
  intro R sl tm h t
  have h1:=fun t=>(h t).kill i 0
  have h2:=ih (sl:=fun t=>(sl t).kill i 0) (tm:=tm) (R:=fun v rv=>R v rv/\∀i' p,(∃sz o n,v=.ref i' p sz o n)\/(∃o,v=.pref i' p o)\/v=.mref i' p->¬ (i'=i/\0<p.length)) (fun t=>by simpa [nY] using h1 t) t
  refine h2.stable (fun _ _=>rfl) (fun _ h=>⟨h,rfl⟩) fun v rv h3=>⟨h3.1.1,fun id hid p hp=>?_⟩
  rcases zl008.1 hid with rfl|hid
  ·exact fun h4=>h3.1.2 id p hp ⟨rfl,h4⟩
  ·exact h3.2 id hid p hp
theorem iU {us:List dJ} {S:Lk} (h:∀u∈us,∃id t,u=.put id t):qF S us=S:=by
 induction us generalizing S with
 | nil=>rfl
 | cons u us ih =>
  obtain ⟨id,t,rfl⟩:=h u (by simp)
  exact ih fun u hu=>h u (by simp [hu])
theorem yh (hr:Rel E N sl st loc fp a w) {fr:Nat} (hfr:N<=fr) {f:FuncId} {vs:List HV} {rvs:List Value} (hv:OW (dX E fp w) w.heap (RefR N st loc w.heap) vs rvs []) (hside:(ak st vs).2.2) {io ids:List Nat}
  (hio:io.map (fun j=>vs[j]?)=ids.map fun id=>some (HV.pref id [] 0)) (hids:ids.Nodup) {K:HV->List HV->Prop} (hC:HTI P f (ak st vs).1 io K) :
  Calls P f rvs.toArray w (fun e w'=>∃rv res outs,e=.returned rv/\K res outs/\outs.length=ids.length/\fr<=(unpack fr res).2.2/\After E (unpack fr res).2.2 sl st ((ak st vs).2.1++kills ids++iF ids outs++(unpack fr res).2.1) (unpack fr res).1 rv a w'):=by
 obtain ⟨ff,tids,T⟩:=iJ hr hv rfl rfl st (fun _=>.inl rfl) hside
 have hputs:=jg st vs
 have hlio:io.length=ids.length:=by have:=congrArg List.length hio;simpa using this
 have hat:∀k,k<ids.length->vs[io.getD k 0]?=some (.pref (ids.getD k 0) [] 0):=fun k hk=>by
  have:=congrArg (fun l:List (Option HV)=>l[k]?) hio
  simp only [iT] at this
  rw [dS (by omega),dS hk] at this
  simp only [iq,bY] at this
  simpa [dW,dS hk,dS (show k<io.length by omega)] using this
 have hpre:=fun k hk=>rZ hr hv st (fun _=>.inl rfl) hside (io.getD k 0) (hat k hk)
 generalize (ak st vs).1=ts at T hC
 generalize (ak st vs).2.1=ut at T hputs hpre
 have hin:∀k,k<ids.length->ids.getD k 0∈tids:=fun k hk=>by
  obtain ⟨_,⟨cs,h1⟩,h2⟩:=hpre k hk
  rw [T.upd] at h2
  split at h2
  ·assumption
  ·rw [h1] at h2;cases h2
 have hloc:∀k,k<ids.length->rvs.getD (io.getD k 0) undef=loc (ids.getD k 0):=fun k hk=>by
  obtain ⟨_,⟨cs,h1⟩,_⟩:=hpre k hk
  obtain ⟨h3,h4⟩:=zl030.1 (hat k hk)
  obtain ⟨rv,f1,f2,f3,e1,e2,o2,_⟩:=hv.at _ h3
  have h5:f2=[]:=by simp at e2;exact e2.2.1
  subst h5
  rw [dW,dS h3,gV,h4] at o2
  have hR:=nU o2
  simp only [RefR] at hR
  obtain ⟨rvn,g,o,b1,b2,b3⟩:=hR.2.2.2 (by rw [h1];trivial)
  simp only [bW,bY] at b1
  subst b1
  have ht:=hr.tree (ids.getD k 0) (by rw [h1];simp)
  rw [h1] at ht
  generalize loc (ids.getD k 0)=L at ht b2 ⊢
  generalize fp (ids.getD k 0)=fL at ht
  rw [dW,e1,gV,b3]
  cases ht with
  | leaf _ _ _ _ _ _ g _=>exact g.elim
  | optr _ _ _ =>
   simp only [je,bY,kD] at b2
   obtain ⟨rfl,rfl⟩:=b2
   rfl
 have idN:∀id∈tids,id<N:=fun id hid=>by
  rcases dL id N with h|h
  ·exact h
  ·exact absurd (hr.new id h) (T.alive id hid).2
 refine (hC.2 w rvs (dX E fp w) ff (fun b hb=>hb.1) T.own T.nodup (fun b hb h=>by obtain ⟨id,_,h2⟩:=T.from_ b hb;exact h.2.2 id h2)).mono ?_
 rintro e w' ⟨rv,res,outs,fs,rfl,hK,ho,hnd,hfs,hb⟩
 have hlo:outs.length=ids.length:=by have:=ho.length;simp at this;omega
 refine ⟨rv,res,outs,rfl,hK,hlo,?_⟩
 have hlt:=ho.lt
 obtain ⟨f0,fo,rfl,ho0,hoo⟩:=ho.split1
 have hnd0:=hnd
 rw [zl007] at hnd0
 obtain ⟨qf,hq1,hq2⟩:=hoo.each hnd0.2.1
 have u:=ho0.unpack (fun _ _ h=>h) fr hnd0.1
 obtain ⟨Tt,l,p,a1,b1,c1,d1,e1,g1⟩:=u
 simp only [aH,List.append_nil] at a1 b1 c1 d1 e1 g1
 refine ⟨a1,?_⟩
 obtain ⟨idx,hidx⟩:∃idx:Nat->Nat,∀k,k<ids.length->idx (ids.getD k 0)=k:=⟨fun id=>ids.idxOf id,fun k hk=>by
  rw [dW,dS hk,gV]
  exact hids.idxOf_getElem k hk⟩
 have hidx2:∀id∈ids,idx id<ids.length/\ids.getD (idx id) 0=id:=fun id hid=>by
  obtain ⟨k,hk,e⟩:=Gg hid
  have e2:ids.getD k 0=id:=by rw [dW,dS hk,gV,e]
  have:=hidx k hk
  rw [e2] at this
  rw [this];exact ⟨hk,e2⟩
 obtain ⟨B1,B2⟩:=CZ (Lk.upd (Lk.upd st ut) (kills ids)) hlo hids
 have hidN:∀id∈ids,id<N/\id∈tids:=fun id hid=>by
  obtain ⟨h1,h2⟩:=hidx2 id hid
  have:=hin _ h1
  rw [h2] at this
  exact ⟨idN id this,this⟩
 have upd:∀id,Lk.upd st (ut++kills ids++iF ids outs++(unpack fr res).2.1) id=if fr<=id/\id<(unpack fr res).2.2 then Tt id else if id∈ids then outs.getD (idx id) .dead else if id∈tids then .dead else st id:=fun id=>by
  rw [bQ,b1,bQ,bQ]
  split
  ·rfl
  ·split
   ·rename_i h
    obtain ⟨h1,h2⟩:=hidx2 id h
    have:=B1 _ h1
    rw [h2] at this
    exact this
   ·rename_i h
    rw [B2 id h,Dn,T.upd]
 have slE:qF sl (ut++kills ids++iF ids outs++(unpack fr res).2.1)=qF sl (kills ids):=by
  rw [dG,dG,dG,iU hputs,c1]
  exact iU (by intro x hx;simp only [iF,zl023] at hx;obtain ⟨y,_,rfl⟩:=hx;exact ⟨_,_,rfl⟩)
 have hkill:=FN (ids:=ids) (R:=RefR N st loc w.heap) (sl:=sl) (tm:=a.tmps) hr.slots
 have hr2:Rel E N (qF sl (kills ids)) st loc fp a w:=⟨hr.below,hr.base,hr.size,hr.tree,hr.gone,hr.new,hr.nodup,hr.apart,hr.fresh,fun t=>(hkill t).stable (fun _ _=>rfl) (fun _ h=>⟨h,rfl⟩) fun _ _ h=>h.1,hr.defers⟩
 have frozen:∀ (fp':Nat->List Nat),(∀id,fp' id=if fr<=id/\id<(unpack fr res).2.2 then p id else if id∈ids then qf (idx id) else if id∈tids then [] else fp id)->∀b,((b<w.heap.size->b∈ff)/\b<w'.heap.size/\b ∉ f0++fo)->dX E fp' w' b:=by
  intro fp' hfp' b ⟨h1,h2,h3⟩
  rw [zl001,not_or] at h3
  refine ⟨h2,fun h=>?_,fun id=>?_⟩
  ·have hbs:b<w.heap.size:=by have:=hr.base;omega
   obtain ⟨j,_,hj⟩:=T.from_ b (h1 hbs)
   rcases hr.fresh j b hj with h4|h4
   ·omega
   ·exact .inr h4
  ·rw [hfp']
   split
   ·rename_i h;exact fun hb2=>h3.1 ((d1 id h.1 h.2).2.2.2 b hb2)
   ·split
    ·rename_i h
     exact fun hb2=>h3.2 ((hq1 _ (by rw [hlo];exact (hidx2 id h).1)).2.2 b hb2)
    ·split
     ·simp
     ·rename_i hn
      intro hb2
      have hbs:=hr.lt id b hb2
      obtain ⟨j,hj1,hj2⟩:=T.from_ b (h1 hbs)
      exact hr.apart id j (fun e=>hn (e▸hj1)) b hb2 hj2
 have main:=hr2.step (fun v=>∀id∈ids,∀p,(∃sz o n,v=.ref id p sz o n)\/(∃o,v=.pref id p o)\/v=.mref id p->¬ 0<p.length) hkill (fun i=>i∈tids\/(fr<=i/\i<(unpack fr res).2.2)) (N':=(unpack fr res).2.2) (st':=Lk.upd st (ut++kills ids++iF ids outs++(unpack fr res).2.1)) (loc':=fun i=>if fr<=i/\i<(unpack fr res).2.2 then l i else loc i) (fp':=fun i=>if fr<=i/\i<(unpack fr res).2.2 then p i else if i∈ids then qf (idx i) else if i∈tids then [] else fp i) (w':=w') (by omega) hb.size hb.os hb.tape hb.output (fun b hb' hn=>hb.block b hb' fun hbf=>by
  obtain ⟨id,h1,h2⟩:=T.from_ b hbf
  exact hn id (.inl h1) h2) ?_ ?_ ?_ ?_ ?_ ?_ ?_ ?_
 ·refine ⟨_,_,by rw [slE];exact main.1,?_⟩
  have:=g1 (unpack fr res).2.2 (Lk.upd st (ut++kills ids++iF ids outs++(unpack fr res).2.1)) (fun i=>if fr<=i/\i<(unpack fr res).2.2 then l i else loc i) (aP _) (fun id h1 h2=>⟨by rw [upd,if_pos ⟨h1,h2⟩],by simp [h1,h2]⟩)
  refine this.stable (by simp) (fun b hb'=>⟨?_,rfl⟩) (fun _ _ h=>h)
  rcases hb' with h|h
  ·exact (main.2.1 b h).1
  ·exact frozen _ (fun _=>rfl) b h
 ·intro id hid
  rw [not_or] at hid
  have hni:id ∉ ids:=fun h=>hid.1 (hidN id h).2
  exact ⟨by rw [upd,if_neg hid.2,if_neg hni,if_neg hid.1],by simp only [hid.2,if_false],by simp only [hid.1,hid.2,hni,if_false]⟩
 ·intro hfz id hid hd
  rw [upd] at hd
  by_cases hn:fr<=id/\id<(unpack fr res).2.2
  ·obtain ⟨h1,h2,h3,h4⟩:=d1 id hn.1 hn.2
   rw [upd,if_pos hn]
   simp only [hn,and_self,if_true]
   refine h2.stable (fun _ _=>rfl) (fun b hb'=>⟨?_,rfl⟩) (fun _ _ h=>h)
   rcases hb' with h|h
   ·exact (hfz b h).1
   ·exact frozen _ (fun _=>rfl) b h
  ·by_cases hi:id∈ids
   ·obtain ⟨h1,h2⟩:=hidx2 id hi
    obtain ⟨o1,o2,o3⟩:=hq1 (idx id) (by rw [hlo];exact h1)
    rw [upd,if_neg hn,if_pos hi]
    simp only [hn,hi,if_false,if_true]
    have e3:(io.map fun j=>rvs.getD j undef).getD (idx id) undef=loc id:=by
     have:=hloc _ h1
     rw [h2] at this
     rw [<- this]
     simp [dW,dS (show idx id<io.length by omega)]
    rw [e3] at o1
    refine o1.stable (fun _ _=>rfl) (fun b hb'=>⟨?_,rfl⟩) (fun _ _ h=>h)
    rcases hb' with h|h
    ·exact (hfz b h).1
    ·exact frozen _ (fun _=>rfl) b h
   ·rw [if_neg hn,if_neg hi,if_pos (hid.resolve_right hn)] at hd
    exact absurd rfl hd
 ·intro id hid hd
  rw [upd] at hd
  by_cases hn:fr<=id/\id<(unpack fr res).2.2
  ·rw [if_pos hn] at hd
   exact absurd hd (d1 id hn.1 hn.2).1
  ·by_cases hi:id∈ids
   ·rw [if_neg hn,if_pos hi] at hd
    obtain ⟨h1,h2⟩:=hidx2 id hi
    obtain ⟨o1,o2,o3⟩:=hq1 (idx id) (by rw [hlo];exact h1)
    rw [hd] at o1
    simp only [hn,hi,if_false,if_true]
    generalize qf (idx id)=q at o1
    cases o1 with
    | leaf _ _ _ _ _ _ g _=>exact g.elim
    | dead o=>cases o;rfl
   ·simp only [hn,hi,if_false,hid.resolve_right hn,if_true]
 ·intro id hid hge
  rcases hid with h|h
  ·have:=idN id h;omega
  ·omega
 ·intro id hid b hb'
  have old:b∈f0++fo->(w.heap.size<=b/\b<w'.heap.size)\/∃j,(j∈tids\/(fr<=j/\j<(unpack fr res).2.2))/\b∈fp j:=fun h1=>by
   rcases hfs b h1 with h|h
   ·exact .inl ⟨h,hlt b h1⟩
   ·obtain ⟨j,hj1,hj2⟩:=T.from_ b h
    exact .inr ⟨j,.inl hj1,hj2⟩
  by_cases hn:fr<=id/\id<(unpack fr res).2.2
  ·simp only [hn,and_self,if_true] at hb'
   exact old (zl001.2 (.inl ((d1 id hn.1 hn.2).2.2.2 b hb')))
  ·by_cases hi:id∈ids
   ·simp only [hn,hi,if_false,if_true] at hb'
    exact old (zl001.2 (.inr ((hq1 _ (by rw [hlo];exact (hidx2 id hi).1)).2.2 b hb')))
   ·simp only [hn,hi,if_false,hid.resolve_right hn,if_true] at hb'
    cases hb'
 ·intro id hid
  by_cases hn:fr<=id/\id<(unpack fr res).2.2
  ·simp only [hn,and_self,if_true]
   exact (d1 id hn.1 hn.2).2.2.1
  ·by_cases hi:id∈ids
   ·simp only [hn,hi,if_false,if_true]
    exact (hq1 _ (by rw [hlo];exact (hidx2 id hi).1)).2.1
   ·simp only [hn,hi,if_false,hid.resolve_right hn,if_true]
    exact .nil
 ·intro i j hi hj hij b hb' hb2
  have cross:∀i j,fr<=i/\i<(unpack fr res).2.2->j∈ids->b∈p i->b∈qf (idx j)->False:=fun i j hn hm h1 h2 =>
   hnd0.2.2 b ((d1 i hn.1 hn.2).2.2.2 b h1) b ((hq1 _ (by rw [hlo];exact (hidx2 j hm).1)).2.2 b h2) rfl
  by_cases hn:fr<=i/\i<(unpack fr res).2.2
  ·simp only [hn,and_self,if_true] at hb'
   by_cases hm:fr<=j/\j<(unpack fr res).2.2
   ·simp only [hm,and_self,if_true] at hb2
    exact e1 i j hn.1 hn.2 hm.1 hm.2 hij b hb' hb2
   ·by_cases hmi:j∈ids
    ·simp only [hm,hmi,if_false,if_true] at hb2
     exact cross i j hn hmi hb' hb2
    ·simp only [hm,hmi,if_false,hj.resolve_right hm,if_true] at hb2
     cases hb2
  ·by_cases hni:i∈ids
   ·simp only [hn,hni,if_false,if_true] at hb'
    by_cases hm:fr<=j/\j<(unpack fr res).2.2
    ·simp only [hm,and_self,if_true] at hb2
     exact cross j i hm hni hb2 hb'
    ·by_cases hmi:j∈ids
     ·simp only [hm,hmi,if_false,if_true] at hb2
      obtain ⟨x1,x2⟩:=hidx2 i hni
      obtain ⟨y1,y2⟩:=hidx2 j hmi
      exact hq2 (idx i) (idx j) (by omega) (by omega) (fun e=>hij (by rw [<- x2,<- y2,e])) b hb' hb2
     ·simp only [hm,hmi,if_false,hj.resolve_right hm,if_true] at hb2
      cases hb2
   ·simp only [hn,hni,if_false,hi.resolve_right hn,if_true] at hb'
    cases hb'
 ·intro v rv id hv hG hid hx
  obtain ⟨id',h1,h2⟩:=hv.isRef
  rw [hid] at h1;cases h1
  rcases hx with hx|hx
  ·have hn:¬ (fr<=id/\id<(unpack fr res).2.2):=by omega
   by_cases hi:id∈ids
   ·obtain ⟨k1,k2⟩:=hidx2 id hi
    obtain ⟨_,⟨cs,hcs⟩,_⟩:=hpre _ k1
    rw [k2] at hcs
    have hp0:=hG id hi
    cases v<;>simp only [dH] at hid<;>cases hid
    ·rename_i pth sz o n
     have hp:pth=[]:=by
      cases pth with
      | nil=>rfl
      | cons x xs=>exact absurd (by simp) (hp0 _ (.inl ⟨_,_,_,rfl⟩))
     subst hp
     simp only [RefR] at hv
     exact absurd (by rw [hcs];rfl) (hv.2.2.2.1 cs)
    ·rename_i pth o
     have hp:pth=[]:=by
      cases pth with
      | nil=>rfl
      | cons x xs=>exact absurd (by simp) (hp0 _ (.inr (.inl ⟨_,rfl⟩)))
     subst hp
     simp only [RefR] at hv ⊢
     refine ⟨by omega,hv.2.1,hv.2.2.1,fun _=>?_⟩
     obtain ⟨rvn,g,o',b1,b2,b3⟩:=hv.2.2.2 (by rw [hcs];trivial)
     refine ⟨rvn,g,o',?_,b2,b3⟩
     simp only [hn,if_false]
     exact b1
    ·rename_i pth
     have hp:pth=[]:=by
      cases pth with
      | nil=>rfl
      | cons x xs=>exact absurd (by simp) (hp0 _ (.inr (.inr rfl)))
     subst hp
     simp only [RefR] at hv
     exact absurd (by rw [hcs];rfl) (hv.2.2.2.1 cs)
   ·have hd:Lk.upd st (ut++kills ids++iF ids outs++(unpack fr res).2.1) id=.dead:=by rw [upd,if_neg hn,if_neg hi,if_pos hx]
    have nd:∀q:List Nat,ah .dead q=.dead:=fun q=>by cases q<;>rfl
    cases v<;>simp only [dH] at hid<;>cases hid
    ·simp only [RefR] at hv ⊢
     refine ⟨by omega,hv.2.1,hv.2.2.1,fun cs=>?_,fun sz' m cs h=>?_⟩
     ·rw [hd,nd];simp
     ·rw [hd,nd] at h;cases h
    ·simp only [RefR] at hv ⊢
     refine ⟨by omega,hv.2.1,hv.2.2.1,fun h=>?_⟩
     rw [hd,nd] at h;exact h.elim
    ·simp only [RefR] at hv ⊢
     refine ⟨by omega,hv.2.1,hv.2.2.1,fun cs=>?_,fun h=>?_⟩
     ·rw [hd,nd];simp
     ·rw [hd,nd] at h;exact h.elim
  ·omega
end
end Go.HL
end
