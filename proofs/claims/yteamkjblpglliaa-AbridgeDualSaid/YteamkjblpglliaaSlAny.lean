import Derived.Test.YteamkjblpglliaaNet
import Derived.OrdersHeld
section
set_option linter.unusedSimpArgs false
set_option linter.unusedVariables false
namespace Go.Proofs.Yteamkjblpglliaa
open Go.RowKit Go.SL
theorem pK {w:World} {g off:Nat} {es:List Edge} (hc:∀k u,(jS es)[k]?=some u->w.cell? ⟨g,off+k,none⟩=some u) (k:Nat) (hk:k<es.length) :
  w.cell? ⟨g,off+k*3,none⟩=some (.int .i64 es[k].f)/\w.cell? ⟨g,off+k*3+1,none⟩=some (.int .i64 es[k].t)/\w.cell? ⟨g,off+k*3+2,none⟩=some (.int .i64 es[k].c):=by
 obtain ⟨h1,h2,h3⟩:=FH es k hk
 exact ⟨hc _ _ h1,hc _ _ h2,hc _ _ h3⟩
def RetB (p:Prop) (w:World) (e:Ending) (w':World):Prop:=∃b:Bool,e=.returned (.bool b)/\(b=true <-> p)/\Below w.heap.size w w'
theorem RetB.no {p:Prop} {w w':World} (h:¬ p) (hb:Below w.heap.size w w'):RetB p w (.returned (.bool false)) w':=⟨false,rfl,by simp [h],hb⟩
theorem RetB.yes {p:Prop} {w w':World} (h:p) (hb:Below w.heap.size w w'):RetB p w (.returned (.bool true)) w':=⟨true,rfl,by simp [h],hb⟩
theorem VNet.bounds {n s t:Int} {es:List Edge} (h:VNet n s t es):2<=n/\n<=258/\0<=s/\s<n/\0<=t/\t<n/\¬ s=t/\es.length<=65536:=⟨h.n2,h.n258,h.s0,h.sn,h.t0,h.tn,h.st,h.len⟩
theorem L9 {n:Int} {es:List Edge} {k:Nat} {hk:k<es.length} (h:∀j (hj:j<es.length),j<k->uO n es[j]) (he:uO n es[k]):∀j (hj:j<es.length),j<k+1->uO n es[j]:=by
 intro j hj hlt
 rcases Nat.lt_or_ge j k with h1|h1
 ·exact h j hj h1
 ·obtain rfl:j=k:=by omega
  exact he
set_option maxHeartbeats 4000000 in
theorem rX (n:Int) (a:Option Addr) (m cap:Nat) (es:List Edge) (s t:Int) (w:World) (hr:rd w a (jS es)) (hl:es.length=m) (hm:m<=9223372036854775807) :
  Calls Try.prog 40 #[.int .i64 n,.slice a m cap,.int .i64 s,.int .i64 t] w (RetB (VNet n s t es) w):=by
 by_cases hv:2<=n/\n<=258/\0<=s/\s<n/\0<=t/\t<n/\¬ s=t/\m<=65536
 ·obtain ⟨v1,v2,v3,v4,v5,v6,v7,v8⟩:=hv
  have v9:(s==t)=false:=by simpa using v7
  replace hl:=Lib.hid hl
  go_enter Try.func40,Try.ntmps40
  go_wp2
  go_loopw [47] (fun i wr=>∃k:Nat,k<=m/\i=.int .i64 k/\(∀j (hj:j<es.length),j<k->uO n es[j])/\Below w.heap.size w wr) (fun i _=>m - (intOf i).toNat)
  case atStart=>exact ⟨0,Nat.zero_le _,rfl,by intro j hj h;omega,Below.refl _ _⟩
  case round =>
   obtain ⟨k,hk,rfl,hall,hb⟩:=hrel
   replace hall:=Lib.hid hall
   by_cases hlt:k<m
   ·have hk':k<es.length:=by have:=hl.out;omega
    obtain ⟨g,off,rfl,hg,hc⟩:=(hr.below hb).opened (by rw [kS];have:=hl.out;omega)
    obtain ⟨c1,c2,c3⟩:=pK hc k hk'
    clear hc
    by_cases hev:uO n es[k]
    ·obtain ⟨x1,x2,x3,x4,x5,x6,x7⟩:=hev
     have y1:(es[k].f==es[k].t)=false:=by simpa using x5
     go_wp2
     go_roundw
     case rel=>exact ⟨k+1,by omega,by go_num,L9 hall.out ⟨x1,x2,x3,x4,x5,x6,x7⟩,hb.alloc hb.size _⟩
     case measure=>simp [intOf];omega
    ·have hno:¬ VNet n s t es:=fun h=>hev (h.all _ (List.getElem_mem _))
     replace hno:=Lib.hid hno
     have hev2:=Lib.hid hev
     clear hev
     go_wp2
     all_goals
      first
      | (exfalso;exact hev2.out ⟨by omega,by omega,by omega,by omega,by first|assumption|omega|simpa using ‹_›,by omega,by omega⟩)
      | (go_ret;exact RetB.no hno.out (hb.alloc hb.size _))
   ·go_wp2
    go_ret
    have:k=m:=by omega
    subst this
    exact RetB.yes ⟨v1,v2,v3,v4,v5,v6,v7,by rw [hl.out];exact v8,fun e he=>by
     obtain ⟨j,hj,rfl⟩:=List.getElem_of_mem he
     exact hall.out j hj (by rw [<- hl.out];exact hj)⟩ hb
 ·go_enter Try.func40,Try.ntmps40
  go_wp2
  all_goals
   go_ret
   refine RetB.no (fun h=>?_) (Below.refl _ _)
   have:=h.bounds
   first|omega|(simp at *;omega)
end Go.Proofs.Yteamkjblpglliaa
end
section
set_option linter.unusedSimpArgs false
set_option linter.unusedVariables false
namespace Go.Proofs.Yteamkjblpglliaa
open Go.RowKit Go.SL
def nN (set:List Bool) (e:Edge):Bool:=decide (0<=e.f)&&(decide (0<=e.t)&&((set[e.f.toNat]?.getD false)&&!(set[e.t.toNat]?.getD true)))
def Au (set:List Bool) (x:Int) (e:Edge):Int:=if nN set e then wrap64 (x+e.c) else x
def KU (set:List Bool) (es:List Edge):Int:=es.foldl (Au set) 0
theorem Ir (set:List Bool) (es:List Edge) (k:Nat) (hk:k<es.length):KU set (es.take (k+1))=Au set (KU set (es.take k)) es[k]:=by
 unfold KU
 rw [List.take_succ_eq_append_getElem hk,List.foldl_append]
 rfl
theorem ints_get (l:List Int) (k:Nat) (hk:k<l.length):(ints l)[k]?=some (.int .i64 l[k]):=by simp [hk]
end Go.Proofs.Yteamkjblpglliaa
end
section
set_option linter.unusedSimpArgs false
set_option linter.unusedVariables false
namespace Go.Proofs.Yteamkjblpglliaa
theorem getD_lt {α:Type} (l:List α) (d:α) {k:Nat} (h:k<l.length):l.getD k d=l[k]:=by simp [h]
theorem mW {α:Type} (l:List α) (d:α) {k:Nat} (h:l.length<=k):l.getD k d=d:=by simp [h]
theorem iQ {α:Type} (l:List α) (d x:α) {k:Nat} (h:k<l.length):(l.set k x).getD k d=x:=by simp [h]
theorem getD_set_ne {α:Type} (l:List α) (d x:α) {k j:Nat} (h:j≠k):(l.set k x).getD j d=l.getD j d:=by
 simp [List.getElem?_set_ne (by omega:k≠j)]
end Go.Proofs.Yteamkjblpglliaa
end
section
set_option linter.unusedSimpArgs false
set_option linter.unusedVariables false
namespace Go.Proofs.Yteamkjblpglliaa
open Go.RowKit Go.SL
def uz (l:List Int) (e:Edge) (x:Int):List Int:=(l.set e.f.toNat (l.getD e.f.toNat 0+x)).set e.t.toNat ((l.set e.f.toNat (l.getD e.f.toNat 0+x)).getD e.t.toNat 0 - x)
def jh (n:Nat) (es:List Edge) (fl:List Int):Nat->List Int
 | 0=>List.replicate n 0
 | k+1=>uz (jh n es fl k) (es.getD k default) (fl.getD k 0)
theorem JM (l:List Int) (e:Edge) (x:Int):(uz l e x).length=l.length:=by simp [uz]
theorem uJ (n:Nat) (es:List Edge) (fl:List Int) (k:Nat):(jh n es fl k).length=n:=by
 induction k with
 | zero=>simp [jh]
 | succ k ih=>simp [jh,JM,ih]
theorem Io (l:List Int) (e:Edge) (x b y:Int) (hl:∀v∈l,-b<=v/\v<=b) (hb:0<=b) (hx0:0<=x) (hx1:x<=y):∀v∈uz l e x,-(b+y)<=v/\v<=b+y:=by
 have hg:∀ (l:List Int) (k:Nat) (b:Int),0<=b->(∀v∈l,-b<=v/\v<=b) -> -b<=l.getD k 0/\l.getD k 0<=b:=by
  intro l k b hb h
  rcases Nat.lt_or_ge k l.length with h1|h1
  ·rw [getD_lt _ _ h1];exact h _ (List.getElem_mem h1)
  ·rw [mW _ _ h1];omega
 intro v hv
 unfold uz at hv
 by_cases hft:e.f.toNat=e.t.toNat/\e.f.toNat<l.length
 ·rw [<- hft.1,List.set_set] at hv
  have e1:(l.set e.f.toNat (l.getD e.f.toNat 0+x)).getD e.f.toNat 0=l.getD e.f.toNat 0+x:=by
   rw [getD_lt _ _ (by simpa using hft.2)];simp
  rw [e1] at hv
  rcases List.mem_or_eq_of_mem_set hv with h|h
  ·have:=hl v h;omega
  ·have:=hg l e.f.toNat b hb hl;omega
 ·rcases List.mem_or_eq_of_mem_set hv with h|h
  ·rcases List.mem_or_eq_of_mem_set h with h|h
   ·have:=hl v h;omega
   ·have:=hg l e.f.toNat b hb hl;omega
  ·have e1:(l.set e.f.toNat (l.getD e.f.toNat 0+x)).getD e.t.toNat 0=l.getD e.t.toNat 0:=by
    rw [List.getD_eq_getElem?_getD,List.getD_eq_getElem?_getD,List.getElem?_set]
    split
    ·rename_i h1
     split
     ·rename_i h2;exact absurd ⟨h1,h2⟩ hft
     ·rename_i h2;simp [<- h1,h2]
    ·rfl
   rw [e1] at h
   have:=hg l e.t.toNat b hb hl;omega
def sN (es:List Edge) (fl:List Int) (k:Nat):Prop:=∀j,j<k->0<=fl.getD j 0/\fl.getD j 0<=(es.getD j default).c
theorem AU (n:Nat) (es:List Edge) (fl:List Int) (k:Nat) (hv:∀e∈es,e.c<=1099511627776) (hk:k<=es.length) (h:sN es fl k):∀v∈jh n es fl k,-((k:Int)*1099511627776)<=v/\v<=(k:Int)*1099511627776:=by
 induction k with
 | zero=>intro v hv;simp [jh] at hv;omega
 | succ k ih =>
  intro v hv2
  have h1:=ih (by omega) (fun j hj=>h j (by omega))
  have h2:=h k (by omega)
  have h3:(es.getD k default).c<=1099511627776:=by
   rw [getD_lt _ _ (by omega)];exact hv _ (List.getElem_mem _)
  have:=Io _ _ _ ((k:Int)*1099511627776) 1099511627776 h1 (by omega) h2.1 (by omega) v hv2
  push_cast
  omega
def wP (s t:Int) (l:List Int) (k:Nat):Prop:=∃v:Nat,v<k/\(v:Int)≠s/\(v:Int)≠t/\l.getD v 0≠0
def CheckR (n:Nat) (s t:Int) (es:List Edge) (fl:List Int) (r x:Int):Prop :=
 (¬ sN es fl es.length/\r=0/\x=5) \/
 (sN es fl es.length/\wP s t (jh n es fl es.length) n/\r=0/\x=24) \/
 (sN es fl es.length/\¬ wP s t (jh n es fl es.length) n/\r=(jh n es fl es.length).getD s.toNat 0/\x=0)
theorem CheckR.eq {n:Nat} {s t:Int} {es:List Edge} {fl:List Int} {r x r' x':Int} (h:CheckR n s t es fl r x) (h':CheckR n s t es fl r' x'):r=r'/\x=x':=by
 unfold CheckR at h h'
 rcases h with ⟨a,b,c⟩|⟨a,a2,b,c⟩|⟨a,a2,b,c⟩<;>rcases h' with ⟨a',b',c'⟩|⟨a',a2',b',c'⟩|⟨a',a2',b',c'⟩<;>first|exact absurd a' a|exact absurd a a'|exact absurd a2' a2|exact absurd a2 a2'|exact ⟨by rw [b,b'],by rw [c,c']⟩
def adb (r x:Int) (w:World) (e:Ending) (w':World):Prop:=e=.returned (.tuple #[.int .i64 r,.int .i64 x])/\Below w.heap.size w w'
def I4 (n:Nat) (s t:Int) (es:List Edge) (fl:List Int) (w:World) (e:Ending) (w':World):Prop:=∃r x,adb r x w e w'/\CheckR n s t es fl r x
theorem Jv {es:List Edge} {fl:List Int} {k:Nat} {f t c x:Int} (h:sN es fl k) (he:es.getD k default=⟨f,t,c⟩) (hx:fl.getD k 0=x) (h0:0<=x) (h1:x<=c):sN es fl (k+1):=by
 intro j hj
 rcases Nat.lt_or_ge j k with h2|h2
 ·exact h j h2
 ·obtain rfl:j=k:=by omega
  rw [he,hx];exact ⟨h0,h1⟩
theorem wO {l:List Int} {k:Nat} (h:k<l.length):l.getD k 0=l[k]:=getD_lt _ _ h
set_option maxHeartbeats 4000000 in
set_option maxRecDepth 100000 in
theorem IK (n:Nat) (a:Option Addr) (m cap:Nat) (es:List Edge) (s t:Int) (a2:Option Addr) (m2 cap2:Nat) (fl:List Int) (w:World) (hr:rd w a (jS es)) (hl:es.length=m) (hm:m<=9223372036854775807)
  (hr2:rd w a2 (ints fl)) (hl2:fl.length=m2) (hm2:m2<=9223372036854775807) (hv:VNet n s t es) (hmm:m=m2) :
  Calls Try.prog 16 #[.int .i64 n,.slice a m cap,.int .i64 s,.int .i64 t,.slice a2 m2 cap2] w (fun e w'=>I4 n s t es fl w e w'):=by
 obtain ⟨v1,v2,v3,v4,v5,v6,v7,v8⟩:=hv.bounds
 obtain rfl:=hmm
 obtain ⟨f0,rfl⟩:=Int.eq_ofNat_of_zero_le v3
 obtain ⟨t0,rfl⟩:=Int.eq_ofNat_of_zero_le v5
 replace hl:=Lib.hid hl
 replace hl2:=Lib.hid hl2
 replace hv:=Lib.hid hv
 go_enter Try.func16,Try.ntmps16
 go_wp2_with fail
 refine (rX _ a m cap es _ _ _ hr hl.out hm).mono ?_
 rintro e w1 ⟨b,rfl,hb,hbel⟩
 obtain rfl:b=true:=hb.2 hv.out
 clear hb
 have hS:=(Sat.init w).calm hbel
 go_wp2_with (at_make;refine Ad rfl T.ints _ _ rfl n rfl rfl hS (by decide) (by omega) (by unfold maxLen;omega) ?_;intro g0 w2 hS2)
 rw [kD] at hS2
 obtain ⟨g,cp,hgv,_,_⟩:=hS2.opened 0 rfl (by omega)
 simp only [Value.slice.injEq,Option.some.injEq] at hgv
 obtain ⟨rfl,-,rfl⟩:=hgv
 go_loopw [34] (fun i wr=>∃k:Nat,k<=m/\i=.int .i64 k/\sN es fl k/\Sat w.heap.size w wr [row 3 1 0 (.slice (some ⟨g,0,none⟩) n n) n (ints (jh n es fl k))]) (fun i _=>m - (intOf i).toNat)
 case atStart=>exact ⟨0,Nat.zero_le _,rfl,(fun j hj=>absurd hj (by omega)),by simpa [jh] using hS2⟩
 case round =>
  clear hS2 hS
  obtain ⟨k,hk,rfl,hok,hS⟩:=hrel
  have hbd:=AU n es fl k (fun e he=>(hv.out.all e he).2.2.2.2.2.2) (by have:=hl.out;omega) hok
  replace hok:=Lib.hid hok
  have hLl:=uJ n es fl k
  by_cases hlt:k<m
  ·have hk':k<es.length:=by have:=hl.out;omega
   have hk2:k<fl.length:=by have:=hl2.out;omega
   obtain ⟨g1,off,rfl,hg1,hc⟩:=hr.opened (by rw [kS];have:=hl.out;omega)
   obtain ⟨g2,off2,rfl,hg2,hc2⟩:=hr2.opened (by simp;have:=hl2.out;omega)
   obtain ⟨c1,c2,c3⟩:=pK hc k hk'
   have d1:=hc2 k _ (ints_get fl k hk2)
   have hed:=getD_lt es default hk'
   have hxd:=getD_lt fl 0 hk2
   have hnx:jh n es fl (k+1)=uz (jh n es fl k) (es.getD k default) (fl.getD k 0):=rfl
   obtain ⟨e1,e2,e3,e4,e5,e6,e7⟩:=hv.out.all _ (List.getElem_mem hk')
   rw [hed,hxd] at hnx
   generalize es[k]=ed at *
   generalize fl[k]=x at *
   obtain ⟨f,t,c⟩:=ed
   simp only at c1 c2 c3 e1 e2 e3 e4 e5 e6 e7
   obtain ⟨f,rfl⟩:=Int.eq_ofNat_of_zero_le e1
   obtain ⟨t,rfl⟩:=Int.eq_ofNat_of_zero_le e3
   clear hc hc2
   replace hed:=Lib.hid hed
   replace hxd:=Lib.hid hxd
   replace hnx:=Lib.hid hnx
   have hbase:=hS.base
   have hg1w:g1<wr.heap.size:=by omega
   have hg2w:g2<wr.heap.size:=by omega
   have c1':=hS.old hg1 c1
   have c2':=hS.old hg1 c2
   have c3':=hS.old hg1 c3
   have d1':=hS.old hg2 d1
   clear c1 c2 c3
   by_cases hx:0<=x/\x<=c
   ·obtain ⟨x0,x1⟩:=hx
    have x2:decide (x<0)=false:=by simpa using x0
    replace hbd:=Lib.hid hbd
    go_wp2_with fail
    go_quiet (fail)
    go_wp2_with fail
    have hS1:=(hS.var [.int .i64 f,.int .i64 t,.int .i64 c] 75).drewN nq
    generalize hW:((wr.alloc _).drewN nq)=W at *
    clear hW
    generalize jh n es fl k=L at *
    have hft:f<L.length:=by omega
    have htt:t<L.length:=by omega
    obtain ⟨bf0,bf1⟩:=hbd.out _ (List.getElem_mem hft)
    obtain ⟨bt0,bt1⟩:=hbd.out _ (List.getElem_mem htt)
    have hnu:uz L ⟨f,t,c⟩ x=(L.set f (L[f]+x)).set t (L[t] - x):=by
     unfold uz
     simp only [Int.toNat_natCast]
     rw [wO hft,wO (by simpa using htt),List.getElem_set_ne (by omega)]
    have b0:W.cell? ⟨wr.heap.size,0,none⟩=some (.int .i64 f):=hS1.blkCell 1 rfl 0
    have b1:W.cell? ⟨wr.heap.size,1,none⟩=some (.int .i64 t):=hS1.blkCell 1 rfl 1
    have n1:=hS1.cell0 0 rfl f _ (ints_get L f hft)
    have nf:=hS1.rowFree0 0 rfl f (by simpa using hft)
    have hstf:=ints_get (L.set f (L[f]+x)) t (by simpa using htt)
    rw [List.getElem_set_ne (by omega)] at hstf
    generalize L[f]=lf at *
    generalize L[t]=lt at *
    have e8:((f:Int))<n:=by omega
    have d2':=hS1.old hg2 d1
    have hk65:(k:Int)*1099511627776<=72057594037927936:=by omega
    replace hLl:=Lib.hid hLl
    replace hnu:=Lib.hid hnu
    replace hstf:=Lib.hid hstf
    clear hS c1' c2' c3' d1' hft htt
    go_region
    have hS3:=(hS1.store 0 rfl (by omega) f (.int .i64 (lf+x))).drew
    simp only [Nat.zero_add] at hS3
    go_wp2_with fail
    generalize (W.setCell _ _).drew=V at *
    rw [<- List.map_set] at hS3
    clear b0 b1 n1 nf d2' hS1
    have b1:V.cell? ⟨wr.heap.size,1,none⟩=some (.int .i64 t):=hS3.blkCell 1 rfl 1
    have n1:=hS3.cell0 0 rfl t _ hstf.out
    have nf:=hS3.rowFree0 0 rfl t (by simp;have:=hLl.out;omega)
    have d2':=hS3.old hg2 d1
    go_region
    have hS4:=(hS3.store 0 rfl (by omega) t (.int .i64 (lt - x))).drew
    simp only [Nat.zero_add] at hS4
    rw [<- List.map_set] at hS4
    go_wp2_with fail
    go_roundw
    case rel=>exact ⟨k+1,by omega,by go_num,Jv hok.out hed.out hxd.out x0 x1,by rw [hnx.out,hnu.out];exact hS4.sel [0] (by decide) rfl⟩
    case measure=>simp [intOf];omega
   ·have hno:¬ sN es fl es.length:=fun h=>hx (by have:=h k hk';rw [hed.out,hxd.out] at this;exact this)
    have hx':x<0\/c<x:=by omega
    clear hx hbd
    replace hno:=Lib.hid hno
    rcases hx' with hx0|hx0
    ·have x2:decide (x<0)=true:=by simpa using hx0
     go_wp2_with fail
     go_quiet (fail)
     go_wp2_with fail
     go_ret2
     exact ⟨0,5,⟨rfl,((hS.alloc _).drewN _).below⟩,.inl ⟨hno.out,rfl,rfl⟩⟩
    ·have x2:decide (x<0)=false:=by simp;omega
     go_wp2_with fail
     go_quiet (fail)
     go_wp2_with fail
     go_ret2
     exact ⟨0,5,⟨rfl,((hS.alloc _).drewN _).below⟩,.inl ⟨hno.out,rfl,rfl⟩⟩
  ·obtain rfl:k=m:=by omega
   have hlm:=hl.out
   rw [<- hlm] at hok
   replace hlm:=Lib.hid hlm
   go_wp2_with fail
   go_loopw [78] (fun i w2=>∃j:Nat,j<=n/\i=.int .i64 j/\¬ wP f0 t0 (jh n es fl es.length) j/\Sat w.heap.size w w2 [row 3 1 0 (.slice (some ⟨g,0,none⟩) n n) n (ints (jh n es fl es.length))]) (fun i _=>n - (intOf i).toNat)
   case atStart=>exact ⟨0,Nat.zero_le _,rfl,by rintro ⟨v,hv,_⟩;omega,by rw [hlm.out];exact hS⟩
   case round =>
    clear hS hbd hLl
    have hLl:=uJ n es fl es.length
    generalize hLL:jh n es fl es.length=L at *
    replace hLL:=Lib.hid hLL
    obtain ⟨j,hj,rfl,hod,hS⟩:=hrel
    replace hod:=Lib.hid hod
    by_cases hjn:j<n
    ·have n1:=hS.cell0 0 rfl j _ (ints_get L j (by omega))
     have hjL:j<L.length:=by omega
     have hgd:=getD_lt L 0 hjL
     generalize L[j]=y at *
     replace hgd:=Lib.hid hgd
     replace hLl:=Lib.hid hLl
     by_cases hy:(j:Int)≠f0/\(j:Int)≠t0/\y≠0
     ·obtain ⟨y1,y2,y3⟩:=hy
      have hodd:wP f0 t0 L n:=⟨j,hjn,y1,y2,by rw [hgd.out];exact y3⟩
      have z1:((j:Int) != (f0:Int))=true:=by simpa using y1
      have z2:((j:Int) != (t0:Int))=true:=by simpa using y2
      have z3:(y != 0)=true:=by simpa using y3
      replace hodd:=Lib.hid hodd
      clear y1 y2 y3
      go_wp2_with fail
      go_ret2
      exact ⟨0,24,⟨rfl,hS.below⟩,.inr (.inl ⟨by rw [hlm.out];rw [hlm.out] at hok;exact hok.out,by rw [hLL.out];exact hodd.out,rfl,rfl⟩)⟩
     ·have hev:¬ wP f0 t0 L (j+1):=fun ⟨v,hv1,hv2,hv3,hv4⟩=>by
       rcases Nat.lt_or_ge v j with h|h
       ·exact hod.out ⟨v,h,hv2,hv3,hv4⟩
       ·obtain rfl:v=j:=by omega
        exact hy ⟨hv2,hv3,by rw [<- hgd.out];exact hv4⟩
      replace hev:=Lib.hid hev
      replace hy:=Lib.hid hy
      have hy':(j:Int)=f0\/((j:Int)≠f0/\(j:Int)=t0)\/((j:Int)≠f0/\(j:Int)≠t0/\y=0):=by
       have:=hy.out
       by_cases h1:(j:Int)=f0
       ·exact .inl h1
       ·by_cases h2:(j:Int)=t0
        ·exact .inr (.inl ⟨h1,h2⟩)
        ·exact .inr (.inr ⟨h1,h2,by
          by_cases h3:y=0
          ·exact h3
          ·exact absurd ⟨h1,h2,h3⟩ this⟩)
      rcases hy' with h1|⟨h1,h2⟩|⟨h1,h2,h3⟩
      ·have z1:((j:Int) != (f0:Int))=false:=by simpa using h1
       clear h1
       go_wp2_with fail
       go_roundw
       case rel=>exact ⟨j+1,by omega,by go_num,hev.out,hS⟩
       case measure=>simp [intOf];omega
      ·have z1:((j:Int) != (f0:Int))=true:=by simpa using h1
       have z2:((j:Int) != (t0:Int))=false:=by simpa using h2
       clear h1 h2
       go_wp2_with fail
       go_roundw
       case rel=>exact ⟨j+1,by omega,by go_num,hev.out,hS⟩
       case measure=>simp [intOf];omega
      ·have z1:((j:Int) != (f0:Int))=true:=by simpa using h1
       have z2:((j:Int) != (t0:Int))=true:=by simpa using h2
       have z3:(y != 0)=false:=by simpa using h3
       clear h1 h2 h3
       go_wp2_with fail
       go_roundw
       case rel=>exact ⟨j+1,by omega,by go_num,hev.out,hS⟩
       case measure=>simp [intOf];omega
    ·have hfL:f0<L.length:=by omega
     have n1:=hS.cell0 0 rfl f0 _ (ints_get L f0 hfL)
     have hgd:=getD_lt L 0 hfL
     generalize L[f0]=y at *
     replace hgd:=Lib.hid hgd
     replace hLl:=Lib.hid hLl
     go_wp2_with fail
     go_ret2
     have:j=n:=by omega
     subst this
     exact ⟨y,0,⟨rfl,hS.below⟩,.inr (.inr ⟨hok.out,by rw [hLL.out];exact hod.out,by rw [hLL.out,Int.toNat_natCast,hgd.out],rfl⟩)⟩
end Go.Proofs.Yteamkjblpglliaa
end
section
set_option linter.unusedSimpArgs false
set_option linter.unusedVariables false
namespace Go.SL
open Go.RowKit
section
variable {P:Program} {ops:Array Oper} {Q:Exit->Act->World->Prop} {md:Region.Mode} {S:World->Prop} {z:Nat}
def zi (P:Program) (md:Region.Mode) (ops:Array Oper) (Q:Exit->Act->World->Prop) (S:World->Prop) (z:Nat):Nat->Array Bool->Act->World->Prop
 | 0,listed,a,w=>Region.ready md ops listed=[]/\Q .normal a w
 | fuel+1,listed,a,w =>
  (Region.ready md ops listed=[]->Q .normal a w) /\
  ∀i∈Region.ready md ops listed,wpOp P ops Q i (fun a' w'=>(i=z\/S w')/\zi P md ops Q S z fuel (listed.setIfInBounds i true) a' w') a w
theorem tq:∀ (fuel:Nat) (listed:Array Bool) (a:Act) (w:World),zi P md ops Q S z fuel listed a w->wpAny P md ops Q fuel listed a w
 | 0,_,_,_,h=>h
 | fuel+1,_,_,_,h=>⟨h.1,fun i hi=>wpOp_mono (fun a' w' h'=>tq fuel _ a' w' h'.2) (h.2 i hi)⟩
def waits (md:Region.Mode) (ops:Array Oper) (z i:Nat):Bool :=
 match ops[z]? with
 | none=>false
 | some o=>o.after.any (fun e=>Region.binds md e&&e.on==i)
theorem D5 {listed:Array Bool} {i:Nat} (hz:waits md ops z i=true) (hi:i∈Region.ready md ops listed):z ∉ Region.ready md ops listed:=by
 intro hzr
 obtain ⟨hun,_,_,_⟩:=mem_ready.1 hi
 obtain ⟨_,oz,hoz,hall⟩:=mem_ready.1 hzr
 unfold waits at hz
 simp only [hoz] at hz
 obtain ⟨e,he,hb⟩:=Array.any_eq_true'.1 hz
 simp only [Bool.and_eq_true,beq_iff_eq] at hb
 have h2:=hall e he hb.1
 rw [hb.2] at h2
 rcases Nat.lt_or_ge i listed.size with h'|h'
 ·simp [h'] at hun h2;rw [hun] at h2;cases h2
 ·simp [Array.getElem?_eq_none h'] at h2
theorem GK {i:Nat} (hz:waits md ops z i=true) {oi:Oper} {v:Value} (hi:ops[i]?=some oi) (hsel:∀ (j:Nat) (o:Oper) cs b,ops[j]?=some o->o.op≠.select cs b)
  (hQ:∀c a w,Q (.panic c) (a.put oi.dst v) w->Q (.panic c) a w) :
  ∀ (fuel:Nat) (listed:Array Bool) (a:Act) (w:World),
   (∀j oj,ops[j]?=some oj->j≠i->listed.getD j true=false->(∀e∈oj.after,Region.binds md e=true->e.on≠i)->oi.apart ops oj=true) ->
   i∈Region.ready md ops listed->YieldsIf P ops S oi v a->S w ->
   zi P md ops Q S z fuel (listed.setIfInBounds i true) (a.put oi.dst v) w->zi P md ops Q S z (fuel+1) listed a w:=by
 intro fuel
 induction fuel with
 | zero =>
  intro listed a w _ hr hy hS H
  refine ⟨fun h=>(by rw [h] at hr;cases hr),fun j hj=>?_⟩
  by_cases hji:j=i
  ·subst hji;exact hy.wpOp hi hS ⟨.inr hS,H⟩
  ·have:=ready_mono hj hji
   rw [H.1] at this
   cases this
 | succ fuel ih =>
  intro listed a w hfree hr hy hS H
  refine ⟨fun h=>(by rw [h] at hr;cases hr),fun j hj=>?_⟩
  by_cases hji:j=i
  ·subst hji;exact hy.wpOp hi hS ⟨.inr hS,H⟩
  ·have hjz:j≠z:=fun h=>D5 hz hr (h▸hj)
   have h1:=H.2 j (ready_mono hj hji)
   obtain ⟨hjun,oj,hoj,hall⟩:=mem_ready.1 hj
   have hnot:∀e∈oj.after,Region.binds md e=true->e.on≠i:=fun e he hb heq=>by
    have h1:=hall e he hb
    have h0:=(mem_ready.1 hr).1
    rw [heq] at h1
    rcases Nat.lt_or_ge i listed.size with h'|h'
    ·simp [h'] at h0 h1;rw [h0] at h1;cases h1
    ·simp [Array.getElem?_eq_none h'] at h1
   have h2:=wpOp_putIf hoj (hfree j oj hoj hji hjun hnot) (fun cs b=>hsel i oi cs b hi) (fun cs b=>hsel j oj cs b hoj) hQ hy h1
   have hfree':∀k ok,ops[k]?=some ok->k≠i->(listed.setIfInBounds j true).getD k true=false ->
     (∀e∈ok.after,Region.binds md e=true->e.on≠i)->oi.apart ops ok=true:=fun k ok hk hki hun hno=>by
    refine hfree k ok hk hki ?_ hno
    by_cases hjk:j=k
    ·subst hjk;exact hjun
    ·rw [getD_set_ne true hjk] at hun;exact hun
   refine wpOp_mono (fun a' w' h3=>?_) h2
   have hS':S w':=h3.2.1.resolve_left hjz
   refine ⟨.inr hS',ih (listed.setIfInBounds j true) a' w' hfree' (ready_mono hr (Ne.symm hji)) h3.1 hS' ?_⟩
   rw [Array.setIfInBounds_comm _ _ hji]
   exact h3.2.2
theorem aV {l:List Oper} {i:Nat} {oi:Oper} {v:Value} {fuel:Nat} {listed:Array Bool} {a:Act} {w:World} (hi:l[i]?=some oi)
  (hc:(waits md l.toArray z i&&Region.noSelect l.toArray&&Region.free md l.toArray listed i&&(Region.ready md l.toArray listed).contains i)=true)
  (hQ:∀c a w,Q (.panic c) (a.put oi.dst v) w->Q (.panic c) a w) (hS:S w) (hy:YieldsIf P l.toArray S oi v a)
  (h:zi P md l.toArray Q S z fuel (listed.setIfInBounds i true) (a.put oi.dst v) w):zi P md l.toArray Q S z (fuel+1) listed a w:=by
 replace hi:l.toArray[i]?=some oi:=by simpa using hi
 simp only [Bool.and_eq_true] at hc
 obtain ⟨⟨⟨h1,h3⟩,h4⟩,h5⟩:=hc
 exact GK h1 hi (Region.noSelect_spec h3) hQ fuel listed a w (Region.free_spec hi h4) (by simpa using h5) hy hS h
theorem dY {l:List Oper} {i:Nat} {o:Oper} {fuel:Nat} {listed:Array Bool} {a:Act} {w:World} (hr:Region.ready md l.toArray listed=[i]) (ho:l[i]?=some o) (hw:Region.wanted o (yielded l.toArray a.tmps)=true)
  (h:∀K:Act->World->Prop,(∀a' w',(i=z\/S w')->zi P md l.toArray Q S z fuel (listed.setIfInBounds i true) a' w'->K a' w')->o.wp P a w K Q):zi P md l.toArray Q S z (fuel+1) listed a w:=by
 replace ho:l.toArray[i]?=some o:=by simpa using ho
 refine ⟨fun h0=>(by rw [hr] at h0;cases h0),fun j hj=>?_⟩
 rw [hr] at hj
 obtain rfl:j=i:=by simpa using hj
 unfold wpOp
 simp only [ho,hw,if_true]
 exact .inl (h _ fun a' w' h1 h2=>⟨h1,h2⟩)
theorem lS {listed:Array Bool} {a:Act} {w:World} (hr:Region.ready md ops listed=[]) (h:Q .normal a w):∀fuel,zi P md ops Q S z fuel listed a w
 | 0=>⟨hr,h⟩
 | _+1=>⟨fun _=>h,by rw [hr];simp⟩
theorem iV (S:World->Prop) (z:Nat) {id:Nat} {a:Act} {w:World} (hm:P.follows .mixedOrders=true)
  (h:zi P .any ops Q S z ops.size (Array.replicate ops.size false) a w.drew):(Code.region id ops true).wp P Q a w :=
 wp_region_any hm (tq _ _ _ _ h)
end
end Go.SL
end
