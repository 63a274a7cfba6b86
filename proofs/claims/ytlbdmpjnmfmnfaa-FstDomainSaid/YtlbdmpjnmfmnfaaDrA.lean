import Derived.Test.YtlbdmpjnmfmnfaaFs3
import Derived.Test.YtlbdmpjnmfmnfaaHlCv
import Derived.Test.YtlbdmpjnmfmnfaaHlW
import Derived.Test.YtlbdmpjnmfmnfaaDmI
import Derived.Test.YtlbdmpjnmfmnfaaDmK
set_option linter.unusedSimpArgs false
set_option linter.unusedVariables false
set_option maxHeartbeats 8000000
section
namespace Go.Proofs.Ytlbdmpjnmfmnfaa
open Go.RowKit Go.HL Go.FS Go.MN
def Tc (a:A):Int:=if a.i = -1 then a.t else a.f
theorem adw {al:List A} {n:Nat} {x:List Bool} (hk:∀a∈al,0<=a.f/\a.f<n/\0<=a.t/\a.t<n) (hx:x.length=n) (i:Nat):Rc al (·.f) Tc (fun i=>x.getD i false=true) i <-> ∃j:Nat,j<n/\x.getD j false=true/\∃v,Tr al j [] v i:=by
 constructor
 ·intro h
  induction h with
  | @on i h =>
   have:i<n:=by
    rcases dX i n with h1|h1
    ·exact h1
    ·rw [bf,qo (by omega)] at h;cases h
   exact ⟨i,this,h,[],.nil⟩
  | @step a ha _ ih =>
   obtain ⟨j,h1,h2,v,h3⟩:=ih
   obtain ⟨a1,a2,a3,a4⟩:=hk a ha
   rw [show ((a.f.toNat:Nat):Int)=a.f by omega] at h3
   unfold Tc
   by_cases he:a.i = -1
   ·rw [if_pos he]
    have h4:=h3.snoc ha rfl
    rw [sy,if_pos he,List.append_nil] at h4
    exact ⟨j,h1,h2,_,by rw [show ((a.t.toNat:Nat):Int)=a.t by omega];exact h4⟩
   ·rw [if_neg he]
    exact ⟨j,h1,h2,v,by rw [show ((a.f.toNat:Nat):Int)=a.f by omega];exact h3⟩
 ·rintro ⟨j,h1,h2,v,h3⟩
  have key:∀ {w v:List Int} {q:Int},Tr al (j:Int) w v q->w=[]->Rc al (·.f) Tc (fun i=>x.getD i false=true) q.toNat:=by
   intro w v q h
   refine Tr.rev (P:=fun w v q=>w=[]->Rc al (·.f) Tc (fun i=>x.getD i false=true) q.toNat) (fun _=>by rw [Int.toNat_natCast];exact .on h2) (fun {w v a} ht ih ha hw=>?_) h
   obtain ⟨h4,h5⟩:=zl115.1 hw
   have he:a.i = -1:=by
    unfold sy at h5
    split at h5
    ·rename_i h;exact h
    ·cases h5
   have:=Rc.step (q:=Tc) ha (ih h4)
   unfold Tc at this
   rw [if_pos he] at this
   exact this
  have:=key h3 rfl
  rwa [Int.toNat_natCast] at this
theorem JM (fin:List Bool) (al:List A) (hv:okF fin al=true) (x:List Bool) (hx:x.length=fin.length):HT Try.prog 96 [.agg (dR fin al),.sl fin.length (HL.bools x)] (fun r=>∃rb,r=.osl 1 fin.length (HL.bools rb)/\SpC al fin.length x rb):=by
 obtain ⟨h1,h2,h3⟩:=lF hv
 have hk:∀a∈al,0<=a.f/\a.f<fin.length/\0<=a.t/\a.t<fin.length:=fun a ha=>by have:=gu hv ha;omega
 refine HT.of rfl aeA (bF rfl) ?_
 unfold c96
 simp only [ay,Nat.reduceAdd,dR,fU]
 have hw:win (HL.bools x) 0 fin.length=HL.bools x:=by rw [<- hx];exact dw _ (by simp [HL.bools])
 refine fP @hw ⟨?_⟩
 have hmi:MI al (·.f) Tc (fun i=>x.getD i false=true) fin.length x:=⟨hx,fun i hi=>.on hi,fun i _ hS=>hS⟩
 refine aF [2,5,6] (fun s:Bool×List Bool=>MI al (·.f) Tc (fun i=>x.getD i false=true) fin.length s.2/\(s.1=false->∀i,s.2.getD i false=true <-> Rc al (·.f) Tc (fun i=>x.getD i false=true) i))
  (fun s=>⟨[(2,.pref 0 [] 0),(5,.ref 1 [] 1 0 fin.length),(6,.bool s.1)],[(0,.optr [.sl fin.length (HL.bools fin),.sl al.length (recs aC al)]),(1,.osl 1 fin.length (HL.bools s.2))],2⟩)
  (fun s=>cf s.2+if s.1 then 1 else 0) (true,x) ⟨hmi,by simp⟩ rfl ?_
 clear hmi
 rintro ⟨ag,rb0⟩ ⟨hmi,hdone⟩
 simp only at hmi hdone ⊢
 cases ag with
 | false =>
  refine zF ⟨?_⟩
  refine ae ?_
  exact ⟨rb0,rfl,hmi.len,fun i _=>(hdone rfl i).trans (adw hk hx i)⟩
 | true =>
  refine zF ⟨?_⟩
  refine aF [2,5,6,7] (fun s:Nat×Bool×List Bool=>s.1<=al.length/\MJ al (·.f) Tc (fun i=>x.getD i false=true) fin.length rb0 s.1 s.2.1 s.2.2)
   (fun s=>⟨[(2,.pref 0 [] 0),(5,.ref 1 [] 1 0 fin.length),(6,.bool s.2.1),(7,.int .i64 s.1)],[(0,.optr [.sl fin.length (HL.bools fin),.sl al.length (recs aC al)]),(1,.osl 1 fin.length (HL.bools s.2.2))],2⟩)
   (fun s=>al.length - s.1) (0,false,rb0) ⟨by simp,.start hmi⟩ rfl ?_
  rintro ⟨k,ag,rb⟩ ⟨hk',hmj⟩
  simp only at hk' hmj ⊢
  have hrl:=hmj.mi.len
  by_cases hkl:k<al.length
  ·have ha:=gu hv (lq hkl)
   have hsk:=hmj.skip hkl
   by_cases he:(al.getD k default).i = -1
   ·have had:=hmj.add hkl (by unfold Tc;rw [if_pos he];omega)
    simp only [Tc,if_pos he] at hsk had
    cases b1:rb.getD (al.getD k default).f.toNat false with
    | false =>
     refine fP (zA @he @b1) ⟨?_⟩
     exact aV [2,5,6,7] (k+1,ag,rb) ⟨hkl,hsk (fun h=>by rw [b1] at h;cases h)⟩ iQ rfl
    | true =>
     cases b2:rb.getD (al.getD k default).t.toNat false with
     | true =>
      refine fP (zA @he (zA @b1 (zA @b2 @Bool.not_true))) ⟨?_⟩
      exact aV [2,5,6,7] (k+1,ag,rb) ⟨hkl,hsk (fun _=>b2)⟩ iQ rfl
     | false =>
      refine fP (zA @he (zA @b1 (zA @b2 @Bool.not_false))) ⟨?_⟩
      exact aV [2,5,6,7] (k+1,true,rb.set (al.getD k default).t.toNat true) ⟨hkl,had b1 b2⟩ iQ rfl
   ·simp only [Tc,if_neg he] at hsk
    refine fP @he ⟨?_⟩
    exact aV [2,5,6,7] (k+1,ag,rb) ⟨hkl,hsk (fun h=>h)⟩ iQ rfl
  ·obtain rfl:k=al.length:=by omega
   have hls:=hmj.less
   refine zF ⟨?_⟩
   exact aV [2,5,6] (ag,rb) ⟨hmj.mi,fun e=>by
    simp only at e;subst e
    exact hmj.done (fun i hi=>by rcases dX i fin.length with h|h;exact h;rw [bf,qo (by omega)] at hi;cases hi)⟩ (by simp only [if_true];omega) rfl
theorem Eb {b:List Bool} {i:Nat} (h:i<b.length):(HL.bools b).getD i .dead=.bool (b.getD i false):=by simp [HL.bools,h]
theorem QA (n:Nat) (x y:List Bool) (hn:n<=100000) (hx:x.length=n) (hy:y.length=n):HT Try.prog 97 [.sl n (HL.bools x),.sl n (HL.bools y)] (fun r=>r=.bool (decide (x=y))):=by
 refine HT.of rfl aev (bF rfl) ?_
 unfold c97
 simp only [ay,Nat.reduceAdd]
 refine zF ⟨?_⟩
 refine aF [0,1,5] (fun i:Nat=>i<=n/\∀j,j<i->x.getD j false=y.getD j false)
  (fun i=>⟨[(0,.sl n (HL.bools x)),(1,.sl n (HL.bools y)),(5,.int .i64 i)],[],0⟩)
  (fun i=>n - i) 0 ⟨dS _,fun j h=>absurd h (Dn j)⟩ rfl ?_
 rintro i ⟨hi,hs⟩
 by_cases hil:i<n
 ·have e1:=Eb (b:=x) (i:=i) (by omega)
  have e2:=Eb (b:=y) (i:=i) (by omega)
  generalize hp:x.getD i false=p at e1
  generalize hq:y.getD i false=q at e2
  refine aU ?_
  refine aU ?_
  refine bg ?_
  refine zQ ⟨?_⟩
  refine fM (by rfl) ?_
  refine fF ?_
  refine aU ?_
  refine fD ?_
  refine aU ?_
  refine bJ aA aA (fun _ _ _=>False) ?_
  by_cases hpq:p=q
  ·have hb:(p==q)=true:=by simp [hpq]
   refine fP (zA @e1 (zA @e2 (zA @hb @Bool.not_true))) ⟨?_⟩
   refine aV [0,1,5] (i+1) ⟨hil,fun j hj=>?_⟩ (by omega) rfl
   by_cases e:j=i
   ·subst e;rw [hp,hq,hpq]
   ·exact hs j (by omega)
  ·have hb:(p==q)=false:=by simp [hpq]
   have hne:x≠y:=fun e=>hpq (by rw [<- hp,<- hq,e])
   refine fP (zA @e1 (zA @e2 (zA @hb @Bool.not_false))) ⟨?_⟩
   refine ae ?_
   rw [decide_eq_false hne];rfl
 ·obtain rfl:i=n:=by omega
  have he:x=y:=uV hx hy fun j hj=>by rw [hs j hj]
  refine zF ⟨?_⟩
  refine ae ?_
  rw [decide_eq_true he];rfl
def bO (n:Nat) (M:List (List Bool)):List HV:=M.map fun b=>.osl 1 n (HL.bools b)
theorem aa1 (n:Nat) (M:List (List Bool)):(bO n M).length=M.length:=by simp [bO]
theorem PR {n:Nat} {M:List (List Bool)} {i:Nat} (h:i<M.length):(bO n M).getD i .dead=.osl 1 n (HL.bools (M.getD i default)):=by simp [bO,h]
theorem abV (n:Nat) (M:List (List Bool)) (c:List Bool):bO n M++[.osl 1 n (HL.bools c)]=bO n (M++[c]):=by simp [bO]
attribute [go_sem] aa1
def Uk (fin b:List Bool) (k:Nat):Bool:=(List.range k).any fun i=>b.getD i false&&fin.getD i false
theorem U2 (fin b:List Bool) (k:Nat):Uk fin b (k+1)=(Uk fin b k || (b.getD k false&&fin.getD k false)):=by
 unfold Uk;rw [JE,Je];simp
def setB (al:List A) (n:Nat) (b:List Bool) (s k:Nat):List Bool:=(List.range n).map fun j:Nat=>(al.take k).any fun a=>decide (a.i=s)&&b.getD a.f.toNat false&&decide (a.t=(j:Int))
theorem C9 (al:List A) (n:Nat) (b:List Bool) (s k:Nat):(setB al n b s k).length=n:=by simp [setB]
theorem UM (al:List A) (n:Nat) (b:List Bool) (s:Nat):setB al n b s 0=List.replicate n false:=by
 apply qE
 ·simp [setB]
 ·intro j h1 h2;simp [setB]
theorem Om {al:List A} {n:Nat} {b:List Bool} {s k j:Nat} (h:j<n):(setB al n b s k).getD j false=(al.take k).any fun a=>decide (a.i=s)&&b.getD a.f.toNat false&&decide (a.t=(j:Int)):=by simp [setB,h]
theorem UF {al:List A} {n:Nat} {b:List Bool} {s k:Nat} (h:k<al.length) (hn:¬ ((al.getD k default).i=s/\b.getD (al.getD k default).f.toNat false=true)):setB al n b s (k+1)=setB al n b s k:=by
 unfold setB
 apply List.map_congr_left
 intro j hj
 rw [bY h,Je]
 have:(decide ((al.getD k default).i=s)&&b.getD (al.getD k default).f.toNat false)=false:=by
  rw [Bool.eq_false_iff];intro hh;rw [aZ,decide_eq_true_eq] at hh;exact hn hh
 simp only [List.any_cons,List.any_nil,this,Bool.false_and,CU]
theorem Xh {al:List A} {n:Nat} {b:List Bool} {s k:Nat} (h:k<al.length) (h1:(al.getD k default).i=s) (h2:b.getD (al.getD k default).f.toNat false=true) (h3:0<=(al.getD k default).t):setB al n b s (k+1)=(setB al n b s k).set (al.getD k default).t.toNat true:=by
 apply qE
 ·simp [setB]
 ·intro j g1 g2
  have hj:j<n:=by rw [C9] at g1;exact g1
  simp only [setB,IZ,Jg,Gj]
  rw [bY h,Je]
  simp only [List.any_cons,List.any_nil,h1,h2,decide_true,uj,CU]
  by_cases e:(al.getD k default).t.toNat=j
  ·rw [if_pos e,decide_eq_true (by omega),Bool.or_true]
  ·rw [if_neg e,decide_eq_false (by omega),CU]
theorem Yp {al:List A} {n:Nat} {b y:List Bool} {s:Nat} {δ:List Bool->Nat->List Bool} (hk:∀a∈al,0<=a.f/\a.f<n/\0<=a.t/\a.t<n) (hδ:SpD al n δ) (h:SpC al n (setB al n b s al.length) y):y=δ b s:=by
 refine uV h.1 (hδ b s).1 fun i hi=>?_
 rw [h.2 i hi,(hδ b s).2 i hi]
 constructor
 ·rintro ⟨j,hj,h1,v,hv⟩
  rw [Om hj,ig,zl083] at h1
  obtain ⟨a,ha,h2⟩:=h1
  simp only [aZ,decide_eq_true_eq] at h2
  exact ⟨a,ha,v,h2.1.1,h2.1.2,by rw [h2.2];exact hv⟩
 ·rintro ⟨a,ha,v,h1,h2,h3⟩
  obtain ⟨_,_,g1,g2⟩:=hk a ha
  refine ⟨a.t.toNat,by omega,?_,v,by rw [Int.toNat_of_nonneg g1];exact h3⟩
  rw [Om (by omega),ig,zl083]
  refine ⟨a,ha,?_⟩
  simp only [aZ,decide_eq_true_eq]
  exact ⟨⟨h1,h2⟩,by omega⟩
theorem TW {al:List A} {n:Nat} {x y:List Bool} (hn:0<n) (hx:SpS al n x) (h:SpC al n ((List.replicate n false).set 0 true) y):y=x:=by
 refine uV h.1 hx.1 fun i hi=>?_
 rw [h.2 i hi,hx.2 i hi]
 constructor
 ·rintro ⟨j,hj,h1,v,hv⟩
  by_cases e:j=0
  ·subst e;exact ⟨v,hv⟩
  ·exfalso
   rw [bf,GZ (by omega)] at h1
   simp [hj] at h1
 ·rintro ⟨v,hv⟩
  exact ⟨0,hn,by simp [hn],v,hv⟩
theorem EE {α:Type} [DecidableEq α] [Inhabited α] {c:α}:∀ {M:List α} {k:Nat},k<M.length->M.getD k default=c->ix M c<=k
 | [],k,h,_=>by simp at h
 | x::M,0,_,e=>by
  have e:x=c:=e
  subst e;simp [ix]
 | x::M,k+1,h,e=>by
  unfold ix
  rw [List.idxOf_cons]
  by_cases hx:x=c
  ·simp [hx]
  ·have:=EE (M:=M) (k:=k) (by simpa using h) (by simpa using e)
   unfold ix at this
   have hb:(x==c)=false:=by simpa using hx
   rw [hb]
   simpa using this
theorem ZO {α:Type} [DecidableEq α] [Inhabited α] {M:List α} {c:α} {k:Nat} (hk:k<M.length) (h:∀j,j<k->M.getD j default≠c) (e:M.getD k default=c):c∈M/\ix M c=k:=by
 have hfi:=EE hk e
 rw [bf,bn hk,fV] at e
 have hm:c∈M:=e▸iD hk
 have hl:ix M c<M.length:=List.idxOf_lt_length_of_mem hm
 have hg:M[ix M c]=c:=List.getElem_idxOf hl
 refine ⟨hm,?_⟩
 rcases Nat.lt_trichotomy (ix M c) k with g|g|g
 ·exact absurd (by rw [bf,bn hl,fV];exact hg) (h _ g)
 ·exact g
 ·omega
theorem ZW {M:List (List Bool)} {c:List Bool} (h:∀j,j<M.length->M.getD j default≠c):c ∉ M:=by
 intro hm
 obtain ⟨j,hj,e⟩:=uD hm
 exact h j hj (by rw [bf,bn hj];exact e)
theorem aaR {kk:List HI} {rs:List Nat} {Kp:HV->Prop} {xc:HCode} [hp:Plain kk] (fin:List Bool) (al:List A) (sz:Int) (M:List (List Bool)) (row:List Nat) (R:List (List Nat)) (F:List Bool) (i:Nat) (b:List Bool) (hb:M.getD i default=b) (hi:i<M.length) (hbl:b.length=fin.length) (hn:fin.length<=10)
  (h:hx Try.prog (.c xc::kk) (finish rs Kp) ⟨[(1,.int .i64 sz),(2,.ptr [.sl fin.length (HL.bools fin),.sl al.length (recs aC al)] 0),(4,.pref 0 [] 0),(7,.ref 1 [] 1 0 M.length),(8,.pref 2 [] 0),(9,.int .i64 (i:Nat)),(10,.ref 3 [] 1 0 row.length),(11,.bool (kw fin b))],[(0,.optr [.int .i64 0,.nils,.nils]),(1,.osl 1 M.length (bO fin.length M)),(2,.optr [.int .i64 sz,.osl 1 R.length (iO (rI R)),.osl 1 F.length (HL.bools F)]),(3,.osl 1 row.length (HL.ints (nI row)))],4⟩):hx Try.prog (.c (.loop aaL)::.b 2::.c xc::kk) (finish rs Kp) ⟨[(1,.int .i64 sz),(2,.ptr [.sl fin.length (HL.bools fin),.sl al.length (recs aC al)] 0),(4,.pref 0 [] 0),(7,.ref 1 [] 1 0 M.length),(8,.pref 2 [] 0),(9,.int .i64 (i:Nat)),(10,.ref 3 [] 1 0 row.length),(11,.bool false),(12,.int .i64 (0:Nat))],[(0,.optr [.int .i64 0,.nils,.nils]),(1,.osl 1 M.length (bO fin.length M)),(2,.optr [.int .i64 sz,.osl 1 R.length (iO (rI R)),.osl 1 F.length (HL.bools F)]),(3,.osl 1 row.length (HL.ints (nI row)))],4⟩:=by
 have hget:(bO fin.length M).getD i .dead=.osl 1 fin.length (HL.bools b):=by rw [<- hb];exact PR hi
 refine aF [1,2,4,7,8,9,10,11,12] (fun k:Nat=>k<=fin.length) (fun k=>⟨[(1,.int .i64 sz),(2,.ptr [.sl fin.length (HL.bools fin),.sl al.length (recs aC al)] 0),(4,.pref 0 [] 0),(7,.ref 1 [] 1 0 M.length),(8,.pref 2 [] 0),(9,.int .i64 (i:Nat)),(10,.ref 3 [] 1 0 row.length),(11,.bool (Uk fin b k)),(12,.int .i64 (k:Nat))],[(0,.optr [.int .i64 0,.nils,.nils]),(1,.osl 1 M.length (bO fin.length M)),(2,.optr [.int .i64 sz,.osl 1 R.length (iO (rI R)),.osl 1 F.length (HL.bools F)]),(3,.osl 1 row.length (HL.ints (nI row)))],4⟩) (fun k=>fin.length - k) 0 (dS _) rfl ?_
 intro k hk
 by_cases hkl:k<fin.length
 ·have e1:=Eb (b:=fin) (i:=k) hkl
  have e2:=Eb (b:=b) (i:=k) (by omega)
  have hst:=U2 fin b k
  generalize hp1:fin.getD k false=p1 at e1 hst
  generalize hp2:b.getD k false=p2 at e2 hst
  generalize Uk fin b k=z at hst ⊢
  cases z with
  | true =>
   refine zF ⟨?_⟩
   refine aV [1,2,4,7,8,9,10,11,12] (k+1) hkl (by omega) ?_
   rw [hst];rfl
  | false =>
   cases p1 with
   | false =>
    refine fP @e1 ⟨?_⟩
    refine aV [1,2,4,7,8,9,10,11,12] (k+1) hkl (by omega) ?_
    rw [hst,Bool.and_false];rfl
   | true =>
    refine fP (zA @e1 (zA @hget @e2)) ⟨?_⟩
    refine aV [1,2,4,7,8,9,10,11,12] (k+1) hkl (by omega) ?_
    rw [hst,Bool.and_true,vY];rfl
 ·obtain rfl:k=fin.length:=by omega
  rw [show kw fin b=Uk fin b fin.length from rfl] at h
  refine zF ⟨?_⟩
  exact bV [1,2,4,7,8,9,10,11] _ rfl h
theorem Za {kk:List HI} {rs:List Nat} {Kp:HV->Prop} {xc:HCode} [hp:Plain kk] (fin:List Bool) (al:List A) (sz:Int) (M:List (List Bool)) (row:List Nat) (R:List (List Nat)) (F:List Bool) (i s:Nat) (z:Bool) (b:List Bool) (hb:M.getD i default=b) (hi:i<M.length) (hbl:b.length=fin.length) (hn:fin.length<=10) (ha:al.length<=8192)
  (hk:∀a∈al,0<=a.f/\a.f<fin.length/\0<=a.t/\a.t<fin.length) (hi64:∀a∈al,-1<=a.i/\a.i<64)
  (h:hx Try.prog (.c xc::kk) (finish rs Kp) ⟨[(1,.int .i64 sz),(2,.ptr [.sl fin.length (HL.bools fin),.sl al.length (recs aC al)] 0),(4,.pref 0 [] 0),(7,.ref 1 [] 1 0 M.length),(8,.pref 2 [] 0),(9,.int .i64 (i:Nat)),(10,.ref 3 [] 1 0 row.length),(11,.bool z),(13,.int .i64 (s:Nat)),(14,.ref 4 [] 1 0 fin.length)],[(0,.optr [.int .i64 0,.nils,.nils]),(1,.osl 1 M.length (bO fin.length M)),(2,.optr [.int .i64 sz,.osl 1 R.length (iO (rI R)),.osl 1 F.length (HL.bools F)]),(3,.osl 1 row.length (HL.ints (nI row))),(4,.osl 1 fin.length (HL.bools (setB al fin.length b s al.length)))],5⟩):hx Try.prog (.c (.loop aas)::.b 6::.c xc::kk) (finish rs Kp) ⟨[(1,.int .i64 sz),(2,.ptr [.sl fin.length (HL.bools fin),.sl al.length (recs aC al)] 0),(4,.pref 0 [] 0),(7,.ref 1 [] 1 0 M.length),(8,.pref 2 [] 0),(9,.int .i64 (i:Nat)),(10,.ref 3 [] 1 0 row.length),(11,.bool z),(13,.int .i64 (s:Nat)),(14,.ref 4 [] 1 0 fin.length),(15,.int .i64 (0:Nat))],[(0,.optr [.int .i64 0,.nils,.nils]),(1,.osl 1 M.length (bO fin.length M)),(2,.optr [.int .i64 sz,.osl 1 R.length (iO (rI R)),.osl 1 F.length (HL.bools F)]),(3,.osl 1 row.length (HL.ints (nI row))),(4,.osl 1 fin.length (HL.bools (setB al fin.length b s 0)))],5⟩:=by
 have hget:(bO fin.length M).getD i .dead=.osl 1 fin.length (HL.bools b):=by rw [<- hb];exact PR hi
 refine aF [1,2,4,7,8,9,10,11,13,14,15] (fun k:Nat=>k<=al.length) (fun k=>⟨[(1,.int .i64 sz),(2,.ptr [.sl fin.length (HL.bools fin),.sl al.length (recs aC al)] 0),(4,.pref 0 [] 0),(7,.ref 1 [] 1 0 M.length),(8,.pref 2 [] 0),(9,.int .i64 (i:Nat)),(10,.ref 3 [] 1 0 row.length),(11,.bool z),(13,.int .i64 (s:Nat)),(14,.ref 4 [] 1 0 fin.length),(15,.int .i64 (k:Nat))],[(0,.optr [.int .i64 0,.nils,.nils]),(1,.osl 1 M.length (bO fin.length M)),(2,.optr [.int .i64 sz,.osl 1 R.length (iO (rI R)),.osl 1 F.length (HL.bools F)]),(3,.osl 1 row.length (HL.ints (nI row))),(4,.osl 1 fin.length (HL.bools (setB al fin.length b s k)))],5⟩) (fun k=>al.length - k) 0 (dS _) rfl ?_
 intro k hkk
 have hcl:=C9 al fin.length b s k
 by_cases hkl:k<al.length
 ·obtain ⟨a1,a2,a3,a4⟩:=hk _ (lq hkl)
  have hin:=hi64 _ (lq hkl)
  have hskip:=UF (n:=fin.length) (b:=b) (s:=s) hkl
  have hadd:=Xh (n:=fin.length) (b:=b) (s:=s) hkl
  have e1:=Eb (b:=b) (i:=(al.getD k default).f.toNat) (by omega)
  generalize setB al fin.length b s k=c at hcl hskip hadd ⊢
  refine aU ?_
  refine aU ?_
  refine bg ?_
  refine zQ ⟨?_⟩
  refine fM (by rfl) ?_
  refine fF ?_
  refine aU ?_
  refine fD ?_
  refine aU ?_
  refine bg ?_
  refine zQ ⟨?_⟩
  refine aU ?_
  refine bJ aA aA (fun _ _ _=>False) ?_
  by_cases he:(al.getD k default).i=s
  ·cases hp:b.getD (al.getD k default).f.toNat false with
   | false =>
    rw [hp] at e1
    refine fP (zA @he (zA @hget @e1)) ⟨?_⟩
    refine aV [1,2,4,7,8,9,10,11,13,14,15] (k+1) hkl (by omega) ?_
    rw [hskip (fun hh=>by rw [hp] at hh;exact absurd hh.2 Bool.false_ne_true)];rfl
   | true =>
    rw [hp] at e1
    refine fP (zA @he (zA @hget @e1)) ⟨?_⟩
    refine aV [1,2,4,7,8,9,10,11,13,14,15] (k+1) hkl (by omega) ?_
    rw [hadd he hp a3];rfl
  ·refine fP @he ⟨?_⟩
   refine aV [1,2,4,7,8,9,10,11,13,14,15] (k+1) hkl (by omega) ?_
   rw [hskip (fun hh=>he hh.1)];rfl
 ·obtain rfl:k=al.length:=by omega
  refine zF ⟨?_⟩
  exact bV [1,2,4,7,8,9,10,11,13,14] _ rfl h
end Go.Proofs.Ytlbdmpjnmfmnfaa
end
