import Derived.Test.YteamkjblpglliaaFlLayers
section
set_option linter.unusedSimpArgs false
set_option linter.unusedVariables false
namespace Go.Proofs.Yteamkjblpglliaa
structure Hq (n nt:Nat) (too:List Nat) (outs:List (List Nat)):Prop where
 ev:nt % 2=0
 tl:too.length=nt
 ol:outs.length=n
 ends:∀k,k<nt->too.getD k 0<n
 out:∀v k,k∈outs.getD v [] <-> k<nt/\too.getD (twin k) 0=v
 ne:∀k,k<nt->too.getD k 0≠too.getD (twin k) 0
theorem Bz {nt k:Nat} (he:nt % 2=0) (hk:k<nt):twin k<nt:=by unfold twin;split<;>omega
def give (too:List Nat) (left:List Int) (u i:Nat):Int :=
 (if too.getD (2*i+1) 0=u then left.getD (2*i+1) 0 else 0) - (if too.getD (2*i) 0=u then left.getD (2*i+1) 0 else 0)
def oN (too:List Nat) (left:List Int) (u:Nat):Nat->Int
 | 0=>0
 | m+1=>oN too left u m+give too left u m
theorem Gf {too:List Nat} {left left':List Int} {u:Nat}:∀m,(∀i,i<m->give too left' u i=give too left u i)->oN too left' u m=oN too left u m:=by
 intro m
 induction m with
 | zero=>intro _;rfl
 | succ m ih=>intro h;simp only [oN];rw [ih (fun i hi=>h i (by omega)),h m (by omega)]
theorem MQ {too:List Nat} {left left':List Int} {u j:Nat} {d:Int} (hj:give too left' u j=give too left u j+d) (h:∀i,i≠j->give too left' u i=give too left u i):∀m,j<m->oN too left' u m=oN too left u m+d:=by
 intro m
 induction m with
 | zero=>intro h;omega
 | succ m ih =>
  intro hm
  simp only [oN]
  by_cases e:j=m
  ·subst e
   rw [Gf j (fun i hi=>h i (by omega)),hj]
   omega
  ·rw [ih (by omega),h m (by omega)]
   omega
theorem zC (left:List Int) (k:Nat) (x:Int):(moved left k x).length=left.length:=by simp [moved]
theorem moved_get (left:List Int) (k:Nat) (x:Int) (hk:k<left.length) (ht:twin k<left.length) (j:Nat) :
  (moved left k x).getD j 0=if j=k then left.getD k 0 - x else if j=twin k then left.getD (twin k) 0+x else left.getD j 0:=by
 unfold moved
 have h1:=Ap k
 split
 ·rename_i e
  subst e
  rw [getD_set_ne _ _ _ (Ne.symm h1),iQ _ _ _ hk]
 ·rename_i e
  split
  ·rename_i e2
   rw [e2,iQ _ _ _ (by simpa using ht)]
  ·rename_i e2
   rw [getD_set_ne _ _ _ e2,getD_set_ne _ _ _ e]
theorem Gl (left:List Int) (k:Nat) (hk:k<left.length) (ht:twin k<left.length):moved left k 0=left:=by
 apply List.ext_getElem
 ·exact zC _ _ _
 ·intro j h1 h2
  have:=moved_get left k 0 hk ht j
  rw [getD_lt _ _ h1] at this
  rw [this]
  split
  ·rename_i e;subst e;rw [getD_lt _ _ h2];omega
  ·split
   ·rename_i e;subst e;rw [getD_lt _ _ h2];omega
   ·rw [getD_lt _ _ h2]
theorem uS (u v:Nat) (x:Int):(if u=v then x else 0)=if v=u then x else 0:=by
 by_cases h:u=v
 ·subst h;rfl
 ·rw [if_neg h,if_neg (fun e=>h e.symm)]
theorem Fz {n nt:Nat} {too:List Nat} {outs:List (List Nat)} (hN:Hq n nt too outs) {left:List Int} (hl:left.length=nt) {k v w:Nat} (hk:k<nt) (hv:too.getD (twin k) 0=v) (hw:too.getD k 0=w) (x:Int) (u:Nat) :
  oN too (moved left k x) u (nt / 2)=oN too left u (nt / 2)+(if u=v then x else 0) - (if u=w then x else 0):=by
 have ht:=Bz hN.ev hk
 have hg:=moved_get left k x (by omega) (by omega)
 have hvw:w≠v:=by rw [<- hv,<- hw];exact hN.ne k hk
 have hother:∀i,i≠k / 2->give too (moved left k x) u i=give too left u i:=by
  intro i hi
  unfold give
  have h1:(moved left k x).getD (2*i+1) 0=left.getD (2*i+1) 0:=by
   rw [hg,if_neg (by omega),if_neg (by unfold twin;split<;>omega)]
  rw [h1]
 have hthis:give too (moved left k x) u (k / 2)=give too left u (k / 2)+((if u=v then x else 0) - (if u=w then x else 0)):=by
  unfold give
  rcases Nat.mod_two_eq_zero_or_one k with h0|h0
  ·have e1:2*(k / 2)=k:=by omega
   have e2:twin k=k+1:=by unfold twin;rw [if_pos h0]
   rw [e1]
   rw [e2] at hv
   have hfk:(moved left k x).getD (k+1) 0=left.getD (k+1) 0+x:=by rw [hg,if_neg (by omega),if_pos e2.symm,e2]
   rw [hv,hw,hfk,uS u v,uS u w]
   split<;>split<;>omega
  ·have e1:2*(k / 2)+1=k:=by omega
   have e2:twin k=2*(k / 2):=by unfold twin;rw [if_neg (by omega)];omega
   have hfk:(moved left k x).getD k 0=left.getD k 0 - x:=by rw [hg,if_pos rfl]
   rw [e1,<- e2,hv,hw,hfk,uS u v,uS u w]
   split<;>split<;>omega
 have:=MQ hthis hother (nt / 2) (by have:=hN.ev;omega)
 rw [this];omega
def Exh (level:List Int) (too:List Nat) (outs:List (List Nat)) (t:Nat) (left:List Int) (ats:List Nat):Prop :=
 ∀u,u≠t->∀p,p<ats.getD u 0->∀k,(outs.getD u [])[p]?=some k ->
  left.getD k 0=0\/lv level (too.getD k 0)≠lv level u+1\/(too.getD k 0≠t/\ats.getD (too.getD k 0) 0=(outs.getD (too.getD k 0) []).length)
structure Pu (nt t v:Nat) (too:List Nat) (outs:List (List Nat)) (level left0:List Int) (ats0:List Nat) (left:List Int) (ats:List Nat) (sent:Int):Prop where
 lenl:left.length=left0.length
 lena:ats.length=ats0.length
 s0:0<=sent
 nn:∀k,0<=left.getD k 0
 pair:∀k,k<nt->left.getD k 0+left.getD (twin k) 0=left0.getD k 0+left0.getD (twin k) 0
 net:∀u,oN too left u (nt / 2)=oN too left0 u (nt / 2)+(if u=v then sent else 0) - (if u=t then sent else 0)
 atle:∀u,ats.getD u 0<=(outs.getD u []).length
 lowat:∀u,lv level u<lv level v->ats.getD u 0=ats0.getD u 0
 lowl:∀k,k<nt->lv level (too.getD (twin k) 0)<lv level v->left.getD k 0=left0.getD k 0
 atmono:∀u,ats0.getD u 0<=ats.getD u 0
 exh:Exh level too outs t left ats
 zero:sent=0->left=left0
theorem Pu.refl {nt t v:Nat} {too:List Nat} {outs:List (List Nat)} {level left:List Int} {ats:List Nat} (h1:∀k,0<=left.getD k 0) (h2:∀u,ats.getD u 0<=(outs.getD u []).length) (h3:Exh level too outs t left ats):Pu nt t v too outs level left ats left ats 0 :=
 ⟨rfl,rfl,Int.le_refl _,h1,fun _ _=>rfl,fun u=>by split<;>split<;>omega,h2,fun _ _=>rfl,fun _ _ _=>rfl,fun _=>Nat.le_refl _,h3,fun _=>rfl⟩
theorem Pu.sink {nt t:Nat} {too:List Nat} {outs:List (List Nat)} {level left:List Int} {ats:List Nat} {x:Int} (hx:0<=x) (h1:∀k,0<=left.getD k 0) (h2:∀u,ats.getD u 0<=(outs.getD u []).length) (h3:Exh level too outs t left ats):Pu nt t t too outs level left ats left ats x :=
 ⟨rfl,rfl,hx,h1,fun _ _=>rfl,fun u=>by split<;>omega,h2,fun _ _=>rfl,fun _ _ _=>rfl,fun _=>Nat.le_refl _,h3,fun _=>rfl⟩
theorem F5 (ats:List Nat) (v u:Nat) (hv:v<ats.length):(ats.set v (ats.getD v 0+1)).getD u 0=if u=v then ats.getD v 0+1 else ats.getD u 0:=by
 split
 ·rename_i e;subst e;exact iQ _ _ _ hv
 ·rename_i e;exact getD_set_ne _ _ _ e
theorem Pu.pass {nt t v:Nat} {too:List Nat} {outs:List (List Nat)} {level left0:List Int} {ats0:List Nat} {left:List Int} {ats:List Nat} {sent:Int} (H:Pu nt t v too outs level left0 ats0 left ats sent) (hv:v<ats.length) (hlt:ats.getD v 0<(outs.getD v []).length)
  {k:Nat} (hk:(outs.getD v [])[ats.getD v 0]?=some k) (hd:left.getD k 0=0\/lv level (too.getD k 0)≠lv level v+1\/(too.getD k 0≠t/\ats.getD (too.getD k 0) 0=(outs.getD (too.getD k 0) []).length)) :
  Pu nt t v too outs level left0 ats0 left (ats.set v (ats.getD v 0+1)) sent:=by
 have hg:=fun u=>F5 ats v u hv
 refine { H with lena:=by simp [H.lena],atle:=?_,lowat:=?_,atmono:=?_,exh:=?_ }
 ·intro u;rw [hg];split
  ·rename_i e;subst e;omega
  ·exact H.atle u
 ·intro u hu;rw [hg];split
  ·rename_i e;subst e;omega
  ·exact H.lowat u hu
 ·intro u;rw [hg];split
  ·rename_i e;subst e;have:=H.atmono u;omega
  ·exact H.atmono u
 ·intro u hu p hp k' hk'
  have full:∀y,ats.getD y 0=(outs.getD y []).length->(ats.set v (ats.getD v 0+1)).getD y 0=(outs.getD y []).length:=by
   intro y hy
   rw [hg];split
   ·rename_i e;subst e;omega
   ·exact hy
  have up:(left.getD k' 0=0\/lv level (too.getD k' 0)≠lv level u+1\/(too.getD k' 0≠t/\ats.getD (too.getD k' 0) 0=(outs.getD (too.getD k' 0) []).length))->(left.getD k' 0=0\/lv level (too.getD k' 0)≠lv level u+1\/(too.getD k' 0≠t/\(ats.set v (ats.getD v 0+1)).getD (too.getD k' 0) 0=(outs.getD (too.getD k' 0) []).length)):=by
   rintro (h|h|⟨h,h'⟩)
   ·exact .inl h
   ·exact .inr (.inl h)
   ·exact .inr (.inr ⟨h,full _ h'⟩)
  refine up ?_
  rw [hg] at hp
  by_cases e:u=v
  ·subst e
   rw [if_pos rfl] at hp
   by_cases e2:p=ats.getD u 0
   ·subst e2
    rw [hk] at hk'
    obtain rfl:=Option.some.inj hk'
    exact hd
   ·exact H.exh u hu p (by omega) k' hk'
  ·rw [if_neg e] at hp
   exact H.exh u hu p hp k' hk'
theorem Pu.step {n nt t v:Nat} {too:List Nat} {outs:List (List Nat)} (hN:Hq n nt too outs) {level left0:List Int} {ats0:List Nat} {left:List Int} {ats:List Nat} {sent:Int} (H:Pu nt t v too outs level left0 ats0 left ats sent) (hll:left0.length=nt)
  {k w:Nat} (hk:k<nt) (hkv:too.getD (twin k) 0=v) (hkw:too.getD k 0=w) (hlw:lv level w=lv level v+1) {left1:List Int} {ats1:List Nat} {x:Int} (H1:Pu nt t w too outs level left ats left1 ats1 x) (hx:x<=left.getD k 0) :
  left1.getD k 0=left.getD k 0/\ats1.getD v 0=ats.getD v 0/\Pu nt t v too outs level left0 ats0 (moved left1 k x) ats1 (sent+x):=by
 have hl1:left1.length=nt:=by rw [H1.lenl,H.lenl,hll]
 have ht:=Bz hN.ev hk
 have hg:=moved_get left1 k x (by omega) (by omega)
 have e1:left1.getD k 0=left.getD k 0:=H1.lowl k hk (by rw [hkv];omega)
 have hx0:=H1.s0
 refine ⟨e1,H1.lowat v (by omega),?_⟩
 refine ⟨by rw [zC,H1.lenl,H.lenl],by rw [H1.lena,H.lena],by have:=H.s0;omega,?_,?_,?_,H1.atle,?_,?_,?_,?_,?_⟩
 ·intro j
  rw [hg]
  split
  ·omega
  ·split
   ·have:=H1.nn (twin k);omega
   ·exact H1.nn j
 ·intro j hj
  have h2:=H1.pair j hj
  have h3:=H.pair j hj
  have h4:=H1.pair k hk
  have h5:=H.pair k hk
  rw [hg,hg]
  by_cases a:j=k
  ·subst a
   rw [if_pos rfl,if_neg (Ap j),if_pos rfl]
   omega
  ·rw [if_neg a]
   by_cases b:j=twin k
   ·subst b
    rw [if_pos rfl,kL,if_pos rfl]
    rw [kL] at h2 h3
    omega
   ·rw [if_neg b]
    have c:twin j≠k:=fun e=>b (by rw [<- e,kL])
    have d:twin j≠twin k:=fun e=>a (by rw [<- kL j,e,kL])
    rw [if_neg c,if_neg d]
    omega
 ·intro u
  rw [Fz hN hl1 hk hkv hkw x u,H1.net u,H.net u]
  split<;>split<;>split<;>omega
 ·intro u hu
  rw [H1.lowat u (by omega),H.lowat u hu]
 ·intro j hj hlj
  rw [hg]
  have a:j≠k:=fun e=>by subst e;rw [hkv] at hlj;omega
  have b:j≠twin k:=fun e=>by subst e;rw [kL,hkw] at hlj;omega
  rw [if_neg a,if_neg b,H1.lowl j hj (by omega),H.lowl j hj hlj]
 ·intro u;have:=H1.atmono u;have:=H.atmono u;omega
 ·intro u hu p hp k' hk'
  have h:=H1.exh u hu p hp k' hk'
  rcases h with h|h|h
  ·by_cases a:k'=k
   ·subst a
    left
    rw [hg,if_pos rfl]
    omega
   ·by_cases b:k'=twin k
    ·subst b
     have hm:=List.mem_of_getElem? hk'
     have hu2:=((hN.out u (twin k)).1 hm).2
     rw [kL,hkw] at hu2
     subst hu2
     right;left
     rw [hkv];omega
    ·left;rw [hg,if_neg a,if_neg b];exact h
  ·exact .inr (.inl h)
  ·exact .inr (.inr h)
 ·intro h0
  have hs:=H.s0
  have hx1:x=0:=by omega
  have hs1:sent=0:=by omega
  subst hx1
  rw [Gl _ _ (by omega) (by omega),H1.zero rfl,H.zero hs1]
end Go.Proofs.Yteamkjblpglliaa
end
section
set_option linter.unusedSimpArgs false
set_option linter.unusedVariables false
namespace Go.Proofs.Yteamkjblpglliaa
open Go.RowKit Go.SL
def Ls (B:Nat) (w0:World) (b go n co:Nat) (at_:Option Addr) (nt ct:Nat) (al:Option Addr) (cl:Nat) (av:Option Addr) (cv:Nat) (aa:Option Addr) (ca:Nat) (s t:Nat) (us:List Value)
  (too:List Nat) (outs:List (List Nat)) (left level:List Int) (ats:List Nat) (R:List jy) (v:Nat) (amount:Int) (e:Ending) (w':World):Prop :=
 ∃ (sent:Int) (left':List Int) (ats':List Nat),e=.returned (.int .i64 sent)/\Pu nt t v too outs level left ats left' ats' sent/\sent<=amount/\(sent<amount->v≠t/\ats'.getD v 0=(outs.getD v []).length) /\
  Sat B w0 w' (jQ b go n co at_ nt ct al cl av cv aa ca s t us too outs left' level ats' R)
set_option maxHeartbeats 8000000 in
set_option maxRecDepth 100000 in
theorem push_any (B:Nat) (w0:World) (b go n co:Nat) (at_:Option Addr) (nt ct:Nat) (al:Option Addr) (cl:Nat) (av:Option Addr) (cv:Nat) (aa:Option Addr) (ca:Nat) (s t:Nat) (us:List Value)
  (too:List Nat) (outs:List (List Nat)) (level:List Int) (R:List jy) (hN:Hq n nt too outs) (ht:t<n) (hn:n<=258) (hnt:nt<=200000) (hlvn:∀v,lv level v<n) (hlv0:∀v,-1<=lv level v) (hlvl:level.length=n) (d:Nat) :
  ∀ (w:World) (left:List Int) (ats:List Nat) (v:Nat) (amount:Int),(n:Int) - lv level v<=d->v<n->1<=amount->amount<=1152921504606846976->left.length=nt->ats.length=n ->
   (∀k,0<=left.getD k 0)->(∀k,k<nt->left.getD k 0+left.getD (twin k) 0<=1099511627776)->(∀u,ats.getD u 0<=(outs.getD u []).length)->Exh level too outs t left ats ->
   Sat B w0 w (jQ b go n co at_ nt ct al cl av cv aa ca s t us too outs left level ats R) ->
   Calls Try.prog 81 #[.pointer (some ⟨b,0,none⟩),.int .i64 v,.int .i64 amount] w (Ls B w0 b go n co at_ nt ct al cl av cv aa ca s t us too outs left level ats R v amount):=by
 induction d with
 | zero=>intro w left ats v amount hd;have:=hlvn v;omega
 | succ d ih =>
  intro w left ats v amount hd hv ha1 ha2 hll hla hnn hpair hatle hexh hS
  have e6:w.cell? ⟨b,6,none⟩=some (.int .i64 t):=hS.blkCell 0 rfl 6
  by_cases hvt:v=t
  ·subst hvt
   go_enter Try.func81,Try.ntmps81
   replace hll:=Lib.hid hll
   replace hla:=Lib.hid hla
   replace hatle:=Lib.hid hatle
   replace hnn:=Lib.hid hnn
   replace hpair:=Lib.hid hpair
   replace hlvn:=Lib.hid hlvn
   replace hlv0:=Lib.hid hlv0
   replace hexh:=Lib.hid hexh
   replace ih:=Lib.hid ih
   go_wp2_with fail
   go_ret
   exact ⟨amount,left,ats,rfl,Pu.sink (by omega) hnn.out hatle.out hexh.out,Int.le_refl _,fun h=>absurd h (by omega),hS⟩
  ·have z0:((v:Int)==(t:Int))=false:=by simp;omega
   have hP0:=Pu.refl (nt:=nt) (v:=v) hnn hatle hexh
   have hv2:(v:Int)<n:=by omega
   have hul:us.length=n:=by have:=(hS.len 3 rfl).1;omega
   have hbl:=hN.ol
   obtain ⟨u,huv⟩:∃u,us[v]?=some u:=⟨_,List.getElem?_eq_getElem (by omega)⟩
   have hov:=Eb outs v (by omega)
   obtain ⟨ov,hoo⟩:∃ov,outs.getD v []=ov:=⟨_,rfl⟩
   rw [hoo] at hov
   obtain ⟨ao,cao,hu,_,_,hol⟩:=hS.bagRd 4 rfl v huv hov
   simp only [List.length_map,Nat.div_one] at hu hol
   rw [hu] at huv
   obtain ⟨gv,cv',hgv,_,_⟩:=hS.opened 5 rfl (by omega)
   simp only [Value.slice.injEq,Option.some.injEq] at hgv
   obtain ⟨rfl,-,rfl⟩:=hgv
   obtain ⟨ga,ca',hga,_,_⟩:=hS.opened 6 rfl (by omega)
   simp only [Value.slice.injEq,Option.some.injEq] at hga
   obtain ⟨rfl,-,rfl⟩:=hga
   replace hll:=Lib.hid hll
   replace hla:=Lib.hid hla
   replace hatle:=Lib.hid hatle
   replace hnn:=Lib.hid hnn
   replace hpair:=Lib.hid hpair
   replace hlvn:=Lib.hid hlvn
   replace hlv0:=Lib.hid hlv0
   replace hexh:=Lib.hid hexh
   replace hlvl:=Lib.hid hlvl
   replace ih:=Lib.hid ih
   replace hN:=Lib.hid hN
   replace hul:=Lib.hid hul
   replace hbl:=Lib.hid hbl
   replace huv:=Lib.hid huv
   replace hov:=Lib.hid hov
   replace hoo:=Lib.hid hoo
   replace hu:=Lib.hid hu
   go_enter Try.func81,Try.ntmps81
   go_wp2_with fail
   clear e6
   go_loopg [7] (ov.length - ats.getD v 0) (fun g x wr=>∃ (sent:Int) (left':List Int) (ats':List Nat),g=ov.length - ats'.getD v 0/\x=.int .i64 sent/\sent<amount/\Pu nt t v too outs level left ats left' ats' sent /\
    Sat B w0 wr (jQ b go n co at_ nt ct al cl (some ⟨gv,0,none⟩) cv (some ⟨ga,0,none⟩) ca s t us too outs left' level ats' R))
   case atStart=>exact ⟨0,left,ats,rfl,rfl,by omega,hP0,hS⟩
   case round =>
    clear hS hP0
    obtain ⟨sent,left1,ats1,rfl,rfl,hsa,hP,hS⟩:=hrel
    have hs0:=hP.s0
    have hla1:ats1.length=n:=by have:=hla.out;have:=hP.lena;omega
    have hll1:left1.length=nt:=by have:=hll.out;have:=hP.lenl;omega
    obtain ⟨p,hp⟩:∃p,ats1.getD v 0=p:=⟨_,rfl⟩
    have hpl:p<=ov.length:=by have:=hP.atle v;rw [hp,hoo.out] at this;exact this
    have d1:wr.cell? ⟨ga,v,none⟩=some (.int .i64 (p:Nat)):=by rw [hS.cell0 6 rfl v _ (oK ats1 v (by omega)),<- getD_lt ats1 0 (by omega),hp]
    have d2:=hS.cell0 3 rfl v _ huv.out
    have e2:wr.cell? ⟨b,2,none⟩=some (.slice (some ⟨go,0,none⟩) n co):=hS.blkCell 0 rfl 2
    have e4:wr.cell? ⟨b,4,none⟩=some (.slice (some ⟨ga,0,none⟩) n ca):=hS.blkCell 0 rfl 4
    replace hP:=Lib.hid hP
    replace hla1:=Lib.hid hla1
    replace hll1:=Lib.hid hll1
    by_cases hlp:p<ov.length
    ·have hpo:(outs.getD v [])[ats1.getD v 0]?=some ov[p]:=by rw [hoo.out,hp];exact List.getElem?_eq_getElem hlp
     obtain ⟨k,hk⟩:∃k,ov[p]=k:=⟨_,rfl⟩
     rw [hk] at hpo
     have hkm:k∈outs.getD v []:=by rw [hoo.out,<- hk];exact List.getElem_mem hlp
     obtain ⟨hk1,hk2⟩:=(hN.out.out v k).1 hkm
     have hto:=hN.out.tl
     obtain ⟨y,hw⟩:∃y,too.getD k 0=y:=⟨_,rfl⟩
     have hyn:y<n:=hw▸hN.out.ends k hk1
     obtain ⟨x,hx⟩:∃x,left1.getD k 0=x:=⟨_,rfl⟩
     have hx0:0<=x:=hx▸hP.out.nn k
     have hx1:x<=1099511627776:=by
      have h1:=hP.out.pair k hk1
      have h2:=hpair.out k hk1
      have h3:=hP.out.nn (twin k)
      omega
     obtain ⟨ao',cao',hu2,hrd,_,_⟩:=hS.bagRd 4 rfl v huv.out hov.out
     simp only [List.length_map,Nat.div_one,Value.slice.injEq,true_and] at hu2
     obtain ⟨rfl,rfl⟩:=hu2
     obtain ⟨g2,off2,rfl,hg2,hc2⟩:=hrd.opened (by simp;omega)
     have d3:wr.cell? ⟨g2,off2+p,none⟩=some (.int .i64 (k:Nat)):=by rw [hc2 p _ (oK ov p hlp),hk]
     obtain ⟨gt,ct',hgt,_,_⟩:=hS.opened 1 rfl (by omega)
     simp only [Value.slice.injEq,Option.some.injEq] at hgt
     obtain ⟨rfl,-,rfl⟩:=hgt
     obtain ⟨gl,cl',hgl,_,_⟩:=hS.opened 2 rfl (by omega)
     simp only [Value.slice.injEq,Option.some.injEq] at hgl
     obtain ⟨rfl,-,rfl⟩:=hgl
     have d4:wr.cell? ⟨gt,k,none⟩=some (.int .i64 (y:Nat)):=by rw [hS.cell0 1 rfl k _ (oK too k (by omega)),<- getD_lt too 0 (by omega),hw]
     have d5:wr.cell? ⟨gl,k,none⟩=some (.int .i64 x):=by rw [hS.cell0 2 rfl k _ (ints_get left1 k (by have:=hll1.out;omega)),<- getD_lt left1 0 (by have:=hll1.out;omega),hx]
     have d6:wr.cell? ⟨gv,y,none⟩=some (.int .i64 (lv level y)):=by rw [hS.cell0 5 rfl y _ (ints_get level y (by have:=hlvl.out;omega)),zo (by have:=hlvl.out;omega)]
     have d7:wr.cell? ⟨gv,v,none⟩=some (.int .i64 (lv level v)):=by rw [hS.cell0 5 rfl v _ (ints_get level v (by have:=hlvl.out;omega)),zo (by have:=hlvl.out;omega)]
     have e0:wr.cell? ⟨b,0,none⟩=some (.slice (some ⟨gt,0,none⟩) nt ct):=hS.blkCell 0 rfl 0
     have e1:wr.cell? ⟨b,1,none⟩=some (.slice (some ⟨gl,0,none⟩) nt cl):=hS.blkCell 0 rfl 1
     have e3:wr.cell? ⟨b,3,none⟩=some (.slice (some ⟨gv,0,none⟩) n cv):=hS.blkCell 0 rfl 3
     have i1:(k:Int)<nt:=by omega
     have i2:(y:Int)<n:=by omega
     obtain ⟨ly,hly⟩:∃z,lv level y=z:=⟨_,rfl⟩
     obtain ⟨lvv,hlvv⟩:∃z,lv level v=z:=⟨_,rfl⟩
     have j1 : -1<=ly:=hly▸hlv0.out y
     have j2:ly<n:=hly▸hlvn.out y
     have j3 : -1<=lvv:=hlvv▸hlv0.out v
     have j4:lvv<n:=hlvv▸hlvn.out v
     rw [hly] at d6
     rw [hlvv] at d7 hd
     replace hly:=Lib.hid hly
     replace hlvv:=Lib.hid hlvv
     replace hk:=Lib.hid hk
     replace hw:=Lib.hid hw
     replace hx:=Lib.hid hx
     replace hk2:=Lib.hid hk2
     replace hto:=Lib.hid hto
     replace hpo:=Lib.hid hpo
     replace hkm:=Lib.hid hkm
     replace hp:=Lib.hid hp
     clear hc2
     have hpair1:∀j,j<nt->left1.getD j 0+left1.getD (twin j) 0<=1099511627776:=fun j hj=>by rw [hP.out.pair j hj];exact hpair.out j hj
     replace hpair1:=Lib.hid hpair1
     by_cases hskip:x=0\/ly≠lvv+1
     ·have hdead:left1.getD k 0=0\/lv level (too.getD k 0)≠lv level v+1\/(too.getD k 0≠t/\ats1.getD (too.getD k 0) 0=(outs.getD (too.getD k 0) []).length):=by
       rw [hx.out,hw.out,hly.out,hlvv.out]
       rcases hskip with h|h
       ·exact .inl h
       ·exact .inr (.inl h)
      have hP2:=hP.out.pass (by have:=hla1.out;omega) (by rw [hp.out,hoo.out];exact hlp) hpo.out hdead
      rw [hp.out] at hP2
      have hz:(x==0)=true\/(x==0)=false/\(ly != lvv+1)=true:=by
       by_cases h0:x=0
       ·exact .inl (by simpa using h0)
       ·rcases hskip with h|h
        ·exact absurd h h0
        ·exact .inr ⟨by simpa using h0,by simpa using h⟩
      have hmap:(iJ ats1).set v (.int .i64 ((p:Nat)+1))=iJ (ats1.set v (p+1)):=by simp
      replace hmap:=Lib.hid hmap
      replace hP2:=Lib.hid hP2
      replace hdead:=Lib.hid hdead
      clear hskip
      have hlv1:v<(iJ ats1).length:=by simp;have:=hla1.out;omega
      rcases hz with z1|⟨z1,z2⟩
      ·go_wp2_with fail
       go_quiet (fail)
       go_wp2_with fail
       go_quiet (fail)
       go_wp2_with fail
       go_quiet (fail)
       go_wp2_with ((with_reducible show wpList _ _ _ (Oper.mk none _ _ _ _ _::_) _ _);go_must (refine jl (u:=.int .i64 ((p:Nat)+1)) (xs:=iJ ats1) rfl 3 _ _ rfl 6 (hS.drewN _) rfl v rfl hlv1 rfl rfl (by kernel_rfl) ?_;intro w4 hS4))
       go_roundg (ov.length - (p+1))
       case measure=>have:=hp.out;omega
       case rel =>
        refine ⟨sent,left1,ats1.set v (p+1),by rw [iQ _ _ _ (by have:=hla1.out;omega)],rfl,hsa,hP2.out,?_⟩
        rw [hmap.out] at hS4
        exact hS4
      ·go_wp2_with fail
       go_quiet (fail)
       go_wp2_with fail
       go_quiet (fail)
       go_wp2_with fail
       go_quiet (fail)
       go_wp2_with ((with_reducible show wpList _ _ _ (Oper.mk none _ _ _ _ _::_) _ _);go_must (refine jl (u:=.int .i64 ((p:Nat)+1)) (xs:=iJ ats1) rfl 3 _ _ rfl 6 (hS.drewN _) rfl v rfl hlv1 rfl rfl (by kernel_rfl) ?_;intro w4 hS4))
       go_roundg (ov.length - (p+1))
       case measure=>have:=hp.out;omega
       case rel =>
        refine ⟨sent,left1,ats1.set v (p+1),by rw [iQ _ _ _ (by have:=hla1.out;omega)],rfl,hsa,hP2.out,?_⟩
        rw [hmap.out] at hS4
        exact hS4
     ·have hx2:1<=x:=by omega
      have hly2:ly=lvv+1:=by omega
      have z1:(x==0)=false:=by simp;omega
      have z2:(ly != lvv+1)=false:=by simp;omega
      clear hskip
      replace hly2:=Lib.hid hly2
      go_wp2_with fail
      go_quiet (fail)
      go_wp2_with fail
      go_quiet (fail)
      go_wp2_with fail
      go_quiet (fail)
      go_wp2_with fail
      all_goals
       refine (ih.out _ left1 ats1 y _ (by have:=hly.out;have:=hly2.out;omega) hyn (by omega) (by omega) hll1.out hla1.out hP.out.nn hpair1.out hP.out.atle hP.out.exh (hS.drewN _)).mono ?_
       rintro e w2 ⟨x2,left2,ats2,rfl,hP2,hle2,hex2,hS2⟩
       have hx20:=hP2.s0
       obtain ⟨f1,f2,hP3⟩:=hP.out.step hN.out hll.out hk1 hk2.out hw.out (by rw [hly.out,hlvv.out,hly2.out]) hP2 (by rw [hx.out];omega)
       rw [hx.out] at f1
       rw [hp.out] at f2
       have hll2:left2.length=nt:=by have:=hll1.out;have:=hP2.lenl;omega
       have hla2:ats2.length=n:=by have:=hla1.out;have:=hP2.lena;omega
       have htk:=Bz hN.out.ev hk1
       have f3:=hP2.nn (twin k)
       have f4:left2.getD (twin k) 0<=1099511627776:=by
        have h1:=hP2.pair k hk1
        have h2:=hpair1.out k hk1
        have h3:=hP2.nn k
        omega
       have f5:=hP2.nn k
       have f6:left2.getD k 0<=2305843009213693952:=by omega
       have f7:left2.getD (twin k) 0<=2305843009213693952:=by omega
       replace f1:=Lib.hid f1
       replace f2:=Lib.hid f2
       replace f5:=Lib.hid f5
       replace f6:=Lib.hid f6
       replace f7:=Lib.hid f7
       replace f3:=Lib.hid f3
       replace hP3:=Lib.hid hP3
       replace hP2:=Lib.hid hP2
       replace hex2:=Lib.hid hex2
       replace hll2:=Lib.hid hll2
       replace hla2:=Lib.hid hla2
       clear f4
       go_wp2_with fail
       refine (move_any B w0 _ b go n co _ nt ct _ cl _ cv _ ca s t us too outs left2 level ats2 R k x2 hk1 htk hnt hx20 (by omega) f5.out f6.out f3.out f7.out hS2).mono ?_
       rintro e w3 ⟨rfl,hS3⟩
       clear d1 d2 d3 d4 d5 d6 d7 e0 e1 e2 e3 e4
       have e4:w3.cell? ⟨b,4,none⟩=some (.slice (some ⟨ga,0,none⟩) n ca):=hS3.blkCell 0 rfl 4
       have d1:w3.cell? ⟨ga,v,none⟩=some (.int .i64 (p:Nat)):=by rw [hS3.cell0 6 rfl v _ (oK ats2 v (by have:=hla2.out;omega)),<- getD_lt ats2 0 (by have:=hla2.out;omega),f2.out]
       by_cases hfin:sent+x2=amount
       ·have zf:((sent+x2)==amount)=true:=by simpa using hfin
        replace hfin:=Lib.hid hfin
        go_wp2_with fail
        go_ret
        exact ⟨sent+x2,_,ats2,rfl,hP3.out,by have:=hfin.out;omega,fun h=>by have:=hfin.out;omega,hS3⟩
       ·have zf:((sent+x2)==amount)=false:=by simpa using hfin
        have hdead:(moved left2 k x2).getD k 0=0\/lv level (too.getD k 0)≠lv level v+1\/(too.getD k 0≠t/\ats2.getD (too.getD k 0) 0=(outs.getD (too.getD k 0) []).length):=by
         rw [hw.out]
         by_cases hq:x2=x
         ·left
          rw [moved_get _ _ _ (by have:=hll2.out;omega) (by have:=hll2.out;omega),if_pos rfl,f1.out];omega
         ·exact .inr (.inr (hex2.out (by omega)))
        have hP4:=hP3.out.pass (by have:=hla2.out;omega) (by rw [f2.out,hoo.out];exact hlp) (by rw [f2.out,<- hp.out];exact hpo.out) hdead
        rw [f2.out] at hP4
        have hmap:(iJ ats2).set v (.int .i64 ((p:Nat)+1))=iJ (ats2.set v (p+1)):=by simp
        replace hmap:=Lib.hid hmap
        replace hP4:=Lib.hid hP4
        replace hdead:=Lib.hid hdead
        have hlt2:sent+x2<amount:=by omega
        have hlv2:v<(iJ ats2).length:=by simp;have:=hla2.out;omega
        clear hfin
        go_wp2_with ((with_reducible show wpList _ _ _ (Oper.mk none _ _ _ _ _::_) _ _);go_must (refine jl (u:=.int .i64 ((p:Nat)+1)) (xs:=iJ ats2) rfl 3 _ _ rfl 6 hS3 rfl v rfl hlv2 rfl rfl (by kernel_rfl) ?_;intro w4 hS4))
        go_roundg (ov.length - (p+1))
        case measure=>have:=hp.out;omega
        case rel =>
         refine ⟨sent+x2,moved left2 k x2,ats2.set v (p+1),by rw [iQ _ _ _ (by have:=hla2.out;omega)],rfl,hlt2,hP4.out,?_⟩
         rw [hmap.out] at hS4
         exact hS4
    ·obtain rfl:ov.length=p:=by omega
     go_wp2_with fail
     go_quiet (fail)
     go_wp2_with fail
     go_ret
     exact ⟨sent,left1,ats1,rfl,hP.out,by omega,fun _=>⟨hvt,by rw [hp,hoo.out]⟩,hS.drewN _⟩
end Go.Proofs.Yteamkjblpglliaa
end
