import Derived.Test.YtlbdmpjnmfmnfaaDmG
import Derived.Test.YtlbdmpjnmfmnfaaFwD
import Derived.Test.YtlbdmpjnmfmnfaaHlW
set_option linter.unusedSimpArgs false
set_option linter.unusedVariables false
namespace Go.Proofs.Ytlbdmpjnmfmnfaa
open Go.RowKit Go.HL Go.FS Go.MN
def lf (n:Nat) (b:List Bool):List Int:=wo b n
theorem mem_lf {n:Nat} {b:List Bool} {p:Int}:p∈lf n b <-> 0<=p/\p<n/\b.getD p.toNat false=true:=by
 unfold lf wo
 simp only [zl020,zl058,zl032]
 constructor
 ·rintro ⟨i,⟨h1,h2⟩,rfl⟩;exact ⟨by omega,by omega,by rw [Int.toNat_natCast];exact h2⟩
 ·rintro ⟨h1,h2,h3⟩;exact ⟨p.toNat,⟨by omega,h3⟩,by omega⟩
theorem J3 (n:Nat) (b:List Bool):(lf n b).length<=n:=Gw b n
theorem Qq {n:Nat} {b b':List Bool} (h:b.length=n) (h':b'.length=n) (e:lf n b=lf n b'):b=b':=by
 refine uV h h' fun i hi=>?_
 have h1:=mem_lf (n:=n) (b:=b) (p:=(i:Int))
 have h2:=mem_lf (n:=n) (b:=b') (p:=(i:Int))
 rw [Int.toNat_natCast] at h1 h2
 constructor
 ·intro h;exact (h2.1 (e▸h1.2 ⟨by omega,by omega,h⟩)).2.2
 ·intro h;exact (h1.1 (e▸h2.2 ⟨by omega,by omega,h⟩)).2.2
theorem aaH {al:List A} {n:Nat} {L:List Int} (hk:∀a∈al,0<=a.f/\a.f<n/\0<=a.t/\a.t<n) (hL:∀j∈L,0<=j/\j<n) (i:Nat):Rn (fun i=>vS al [(i:Int)] (-1)) L i <-> ∃j∈L,∃v,Tr al j [] v i:=by
 constructor
 ·intro h
  induction h with
  | @on j h =>
   obtain ⟨h1,h2⟩:=hL j h
   exact ⟨j,h,[],by rw [show ((j.toNat:Nat):Int)=j by omega];exact .nil⟩
  | @step i j _ hj ih =>
   obtain ⟨k,h1,v,h2⟩:=ih
   obtain ⟨a,ha,h3,h4,h5⟩:=mem_byL.1 hj
   rw [zl009] at h3
   obtain ⟨a1,a2,a3,a4⟩:=hk a ha
   rw [<- h3] at h2
   have h6:=h2.snoc ha rfl
   rw [sy,if_pos h4,List.append_nil,h5] at h6
   exact ⟨k,h1,_,by rw [show ((j.toNat:Nat):Int)=j by omega];exact h6⟩
 ·rintro ⟨j,h1,v,h2⟩
  have key:∀ {w v:List Int} {q:Int},Tr al j w v q->w=[]->Rn (fun i=>vS al [(i:Int)] (-1)) L q.toNat:=by
   intro w v q h
   refine Tr.rev (P:=fun w v q=>w=[]->Rn (fun i=>vS al [(i:Int)] (-1)) L q.toNat) (fun _=>.on h1) (fun {w v a} ht ih ha hw=>?_) h
   obtain ⟨h4,h5⟩:=zl115.1 hw
   have he:a.i = -1:=by
    unfold sy at h5
    split at h5
    ·rename_i h;exact h
    ·cases h5
   obtain ⟨a1,a2,a3,a4⟩:=hk a ha
   exact .step (ih h4) (mem_byL.2 ⟨a,ha,by rw [zl009];omega,he,rfl⟩)
  have:=key h2 rfl
  rwa [Int.toNat_natCast] at this
section
variable {al:List A} {n:Nat} {δ:List Bool->Nat->List Bool} {x b rb:List Bool}
theorem ZN (hk:∀a∈al,0<=a.f/\a.f<n/\0<=a.t/\a.t<n) (hδ:SpD al n δ) {s:Nat} (hl:rb.length=n) (h:∀i,rb.getD i false=true <-> Rn (fun i=>vS al [(i:Int)] (-1)) (vS al (lf n b) s) i):rb=δ b s:=by
 refine uV hl (hδ b s).1 fun i hi=>?_
 rw [h i,(hδ b s).2 i hi,aaH hk fun j hj=>by
  obtain ⟨a,ha,_,_,rfl⟩:=mem_byL.1 hj
  have:=hk a ha;omega]
 constructor
 ·rintro ⟨j,hj,v,hv⟩
  obtain ⟨a,ha,h1,h2,rfl⟩:=mem_byL.1 hj
  exact ⟨a,ha,v,h2,(mem_lf.1 h1).2.2,hv⟩
 ·rintro ⟨a,ha,v,h1,h2,h3⟩
  obtain ⟨a1,a2,_,_⟩:=hk a ha
  exact ⟨a.t,mem_byL.2 ⟨a,ha,mem_lf.2 ⟨a1,a2,h2⟩,h1,rfl⟩,v,h3⟩
theorem Xp (hk:∀a∈al,0<=a.f/\a.f<n/\0<=a.t/\a.t<n) (hn:0<n) (hx:SpS al n x) (hl:rb.length=n) (h:∀i,rb.getD i false=true <-> Rn (fun i=>vS al [(i:Int)] (-1)) [0] i):rb=x:=by
 refine uV hl hx.1 fun i hi=>?_
 rw [h i,hx.2 i hi,aaH hk (by simp;omega)]
 simp
theorem ZP (fin b:List Bool):((lf fin.length b).any fun k=>fin.getD k.toNat false)=kw fin b:=by
 rw [Jz]
 simp only [zl083,kw,zl032,aZ]
 constructor
 ·rintro ⟨p,hp,hq⟩
  obtain ⟨h1,h2,h3⟩:=mem_lf.1 hp
  exact ⟨p.toNat,by omega,h3,hq⟩
 ·rintro ⟨i,hi,h1,h2⟩
  exact ⟨i,mem_lf.2 ⟨by omega,by omega,by rw [Int.toNat_natCast];exact h1⟩,by rw [Int.toNat_natCast];exact h2⟩
end
theorem Zq {α:Type} [DecidableEq α] {l:List α} {a:α} (h:a ∉ l):ix (l++[a]) a=l.length:=by
 unfold ix;rw [MW,if_neg h];simp
theorem abt {n:Nat} {M:List (List Bool)} {k:List Bool} (hM:∀b∈M,b.length=n) (hk:k.length=n) (h:k∈M):insL (M.map (lf n)) (lf n k)=M.map (lf n)/\ix (M.map (lf n)) (lf n k)=ix M k:=by
 have e1:lf n k∈M.map (lf n) <-> k∈M:=GG fun x hx e=>Qq hk (hM x hx) e
 have e2:ix (M.map (lf n)) (lf n k)=ix M k:=Bj fun x hx e=>Qq hk (hM x hx) e
 exact ⟨by unfold insL;rw [if_pos (e1.2 h)],e2⟩
theorem YK {n:Nat} {M:List (List Bool)} {k:List Bool} (hM:∀b∈M,b.length=n) (hk:k.length=n) (h:k ∉ M):insL (M.map (lf n)) (lf n k)=(M++[k]).map (lf n)/\ix ((M++[k]).map (lf n)) (lf n k)=M.length:=by
 have e1:lf n k∈M.map (lf n) <-> k∈M:=GG fun x hx e=>Qq hk (hM x hx) e
 have h':lf n k ∉ M.map (lf n):=fun q=>h (e1.1 q)
 refine ⟨by unfold insL;rw [if_neg h'];simp,?_⟩
 rw [oW,dP,uG,Zq h',List.length_map]
theorem Y3 (fin:List Bool) (al:List A) (k:Int) (h0:0<=k) (h1:k<fin.length):HT Try.prog 94 [.int .i64 k,.ptr [.sl fin.length (HL.bools fin),.sl al.length (recs aC al)] 0] (fun r=>r=.bool (fin.getD k.toNat false)):=by
 refine HT.of rfl afl (bF rfl) ?_
 unfold c94
 simp only [ay,Nat.reduceAdd]
 refine zF ⟨?_⟩
 refine ae ?_
 simp [HL.bools,show k.toNat<fin.length by omega]
 rfl
theorem Zo (fin:List Bool) (al:List A) (l:List Int) (hl:l.length<=9223372036854775807) (hin:∀k∈l,0<=k/\k<fin.length):HT Try.prog 105 [.sl l.length (HL.ints l),.fn 94 [.ptr [.sl fin.length (HL.bools fin),.sl al.length (recs aC al)] 0]] (fun r=>∃z:Int,r=.int .i64 z/\(0<=z <-> l.any (fun k=>fin.getD k.toNat false)=true)):=by
 refine HT.of rfl VI (bF rfl) ?_
 unfold c105
 simp only [ay,Nat.reduceAdd]
 refine zF ⟨?_⟩
 refine aF [0,1,7,8] (fun k:Nat=>k<=l.length/\(l.take k).any (fun k=>fin.getD k.toNat false)=false)
  (fun k=>⟨[(0,.sl l.length (HL.ints l)),(1,.fn 94 [.ptr [.sl fin.length (HL.bools fin),.sl al.length (recs aC al)] 0]),(7,.int .i64 l.length),(8,.int .i64 k)],[],0⟩)
  (fun k=>l.length - k) 0 ⟨by omega,by simp⟩ rfl ?_
 rintro k ⟨hk,hno⟩
 by_cases hkl:k<l.length
 ·have hm:l.getD k 0∈l:=by rw [bf,bn hkl];exact iD hkl
  obtain ⟨i0,i1⟩:=hin _ hm
  have hx:(HL.ints l).getD k .dead=.int .i64 (l.getD k 0):=AX hkl
  have htk:(l.take (k+1)).any (fun k=>fin.getD k.toNat false)=fin.getD (l.getD k 0).toNat false:=by
   rw [rG,Je,hno];simp [hkl]
  have hv:=Y3 fin al (l.getD k 0) i0 i1
  generalize l.getD k 0=q at hm hx htk hv
  repeat (first|refine AB af rfl ?_|refine rD bP ?_|refine bg ?_|refine aU ?_|refine uk (by rfl) (by rfl) DR ?_|refine fF ?_|refine fM (by rfl) ?_|refine fO (by rfl) ?_|refine uC (by rfl) (by rfl) ?_|refine fD ?_|refine qJ (by rfl) ?_|refine og (by rfl) ?_|refine ug (by rfl) bD (by (try simp (disch:=omega) only [go_sem,reduceIte,Nat.reduceEqDiff,Nat.reduceAdd,Nat.reduceMul,hx]);try rfl) az (by (try simp (disch:=omega) only [go_sem,hx]);try rfl) af ?_|refine sQ (by rfl) (by rfl) (by (try simp (disch:=omega) only [go_sem,Int.reduceAdd,Int.reduceSub,Int.reduceMul,hx]);try rfl) ?_|refine uS (by rfl) az (by (try simp (disch:=omega) only [go_sem,hx]);try rfl) ?_|refine uz (by rfl) (by rfl) (by omega) bP ?_|refine Az ?_|refine kK (by rfl) af ?_|refine kH (by rfl) af ?_|refine xK (by rfl) (by rfl) ?_|refine xW (by rfl) (by rfl) ?_|refine uK (by rfl) (by rfl) uA ?_|refine gJ (by rfl) ?_|refine Di (by rfl) (by rfl) ?_|refine yx (by rfl) (by rfl) DR ?_|refine CE (by rfl) af ak dK (by rfl) (by decide) bD ak az (by (try simp (disch:=omega) only [go_sem,hx]);try rfl) ak ?_|refine wU (by rfl) af ak jI uI (by rfl) wF (by rfl) wY (by (try simp (disch:=omega) only [go_sem,reduceIte,Nat.reduceEqDiff,Nat.reduceAdd,Nat.reduceMul,hx]);try rfl) az (by (try simp (disch:=omega) only [go_sem,hx]);try rfl) ak iL ?_|refine vg (by rfl) (by rfl) (by omega) bP ?_|refine nC (by rfl) ?_|refine qN bP ?_|refine jD ?_|refine sK (by rfl) az af ?_|refine oq rfl (by rfl) bP ?_|refine qR (by rfl) az (by (try simp (disch:=omega) only [go_sem,reduceIte,Nat.reduceEqDiff,Nat.reduceAdd,Nat.reduceMul,hx]);try rfl) ?_|refine uX (by rfl) (by rfl) uQ ?_|refine ou (by rfl) ?_|refine pJ (by rfl) bD ak az (by decide) (by (try simp (disch:=omega) only [go_sem,reduceIte,Nat.reduceEqDiff,Nat.reduceAdd,Nat.reduceMul,hx]);try rfl) dK ?_|refine qK bP (by rfl) af rU (by (try simp (disch:=omega) only [go_sem,reduceIte,Nat.reduceEqDiff,Nat.reduceAdd,Nat.reduceMul,hx]);try omega) (by omega) gz ?_|refine pI bP (by rfl) af rU (by (try simp (disch:=omega) only [go_sem,reduceIte,Nat.reduceEqDiff,Nat.reduceAdd,Nat.reduceMul,hx]);try omega) bD (by (try simp (disch:=omega) only [go_sem,reduceIte,Nat.reduceEqDiff,Nat.reduceAdd,Nat.reduceMul,hx]);try rfl) bP (by omega) gz az (by (try simp (disch:=omega) only [go_sem,reduceIte,Nat.reduceEqDiff,Nat.reduceAdd,Nat.reduceMul,hx]);try rfl) ak ?_|refine xI (by rfl) (by rfl) kM ?_|refine xH yA xZ (by simp [jM]) ?_|refine oz bP af ak dK (by rfl) ?_|refine xM (by rfl) (by rfl) (by (try simp (disch:=omega) only [go_sem,Int.reduceAdd,Int.reduceSub,Int.reduceMul,hx]);try rfl) ?_|refine ni (by rfl) ?_|refine yB (by rfl) (by rfl) kM ?_|refine mY af rfl ?_|refine qM bP (by rfl) (by omega) ak ak ?_|refine xG (by rfl) (by rfl) (by (try simp (disch:=omega) only [go_sem,Int.reduceAdd,Int.reduceSub,Int.reduceMul,hx]);try rfl) ?_|refine yc (by rfl) (by rfl) (by (try simp only [go_sem,reduceIte,hx]);try rfl) ?_|refine ve (by rfl) (by rfl) ?_|refine uT (by rfl) (by rfl) ?_|refine mP bP (by rfl) af rU x9 bD ak bP (by omega) gz az (by (try simp (disch:=omega) only [go_sem,reduceIte,Nat.reduceEqDiff,Nat.reduceAdd,Nat.reduceMul,hx]);try rfl) ak (by rfl) ?_|refine ww (by rfl) (by rfl) (by omega) (by (try simp (disch:=omega) only [go_sem,Int.reduceAdd,Int.reduceSub,Int.reduceMul,hx]);try rfl) ?_|refine yD (by rfl) (by rfl) (by omega) (by (try simp (disch:=omega) only [go_sem,Int.reduceAdd,Int.reduceSub,Int.reduceMul,hx]);try rfl) ?_|refine Fj (by rfl) (by rfl) (by (try simp only [go_sem,reduceIte,hx]);try rfl) ?_|refine qX bP aG ak jI (by simp) (by rfl) (by rfl) (by rfl) ?_|refine qV (by rfl) (by rfl) (by rfl) (by omega) ak bP (by (try simp (disch:=omega) only [go_sem,reduceIte,Nat.reduceEqDiff,Nat.reduceAdd,Nat.reduceMul,hx]);try rfl) ?_|refine iY ?_|refine mf (by rfl) (by rfl) dm af ⟨rfl,rfl⟩ (by (try simp (disch:=omega) only [go_sem,reduceIte,Nat.reduceEqDiff,Nat.reduceAdd,Nat.reduceMul,hx]);try rfl) (by rfl) ?_|refine xO (by rfl) (by rfl) (by (try simp (disch:=omega) only [go_sem,Int.reduceAdd,Int.reduceSub,Int.reduceMul,hx]);try rfl) ?_|refine Fq (by rfl) (by rfl) (by (try simp (disch:=omega) only [go_sem,Int.reduceAdd,Int.reduceSub,Int.reduceMul,hx]);try rfl) ?_|refine yj (by rfl) (by rfl) (by (try simp (disch:=omega) only [go_sem,Int.reduceAdd,Int.reduceSub,Int.reduceMul,hx]);try rfl) ?_|refine xQ (by rfl) (by rfl) (by omega) (by (try simp (disch:=omega) only [go_sem,Int.reduceAdd,Int.reduceSub,Int.reduceMul,hx]);try rfl) ?_|refine yu (by rfl) (by rfl) (by omega) (by (try simp (disch:=omega) only [go_sem,Int.reduceAdd,Int.reduceSub,Int.reduceMul,hx]);try rfl) ?_|refine x8 (by rfl) (by rfl) yl (by (try simp (disch:=omega) only [ng,go_sem,reduceIte,hx]);try rfl) ?_|refine qY (by rfl) (by (try simp only [go_sem,reduceIte,hx]);try rfl) ?_|refine wZ (by rfl) (by (try simp (disch:=omega) only [go_sem,Int.reduceAdd,Int.reduceSub,Int.reduceMul,hx]);try rfl) ?_|refine qQ (by rfl) (by (try simp (disch:=omega) only [go_sem,Int.reduceAdd,Int.reduceSub,Int.reduceMul,hx]);try rfl) ?_|refine xN (by rfl) af rU (by (try simp (disch:=omega) only [go_sem,reduceIte,Nat.reduceEqDiff,Nat.reduceAdd,Nat.reduceMul,hx]);try omega) (by (try simp only [go_sem,reduceIte,Nat.reduceEqDiff,Nat.reduceAdd,Nat.reduceMul,hx]);try rfl) (by (try simp (disch:=omega) only [go_sem,reduceIte,Nat.reduceEqDiff,Nat.reduceAdd,Nat.reduceMul,hx]);try rfl) dK (by omega) bD (by (try simp (disch:=omega) only [go_sem,reduceIte,Nat.reduceEqDiff,Nat.reduceAdd,Nat.reduceMul,hx]);try rfl) az (by (try simp (disch:=omega) only [go_sem,reduceIte,Nat.reduceEqDiff,Nat.reduceAdd,Nat.reduceMul,hx]);try rfl) ak ?_|refine yz (by rfl) az af ?_|refine qW (by rfl) az (by (try simp (disch:=omega) only [go_sem,reduceIte,Nat.reduceEqDiff,Nat.reduceAdd,Nat.reduceMul,hx]);try rfl) ?_|refine xJ bP af rfl ?_|refine qP (by rfl) ?_|refine qU (by rfl) (by omega) ?_|refine qL (by rfl) (by omega) ?_|refine mX bP ?_|refine xP (eV rfl) af ⟨rfl,rfl⟩ (by (try simp (disch:=omega) only [go_sem,reduceIte,Nat.reduceEqDiff,Nat.reduceAdd,Nat.reduceMul,hx]);try rfl) (by rfl) ?_|refine yw (by rfl) af (by rfl) (by rfl) ?_|refine jY (by rfl) af af gU (by trivial) gU dm ⟨rfl,rfl⟩ (by (try simp (disch:=omega) only [go_sem,reduceIte,Nat.reduceEqDiff,Nat.reduceAdd,Nat.reduceMul,hx]);try rfl) ak iL ?_|refine mJ (eV rfl) (by (try simp (disch:=omega) only [List.length_map,go_sem,reduceIte,Nat.reduceEqDiff,Nat.reduceAdd,Nat.reduceMul,hx]);try rfl) ?_|refine mV (by rfl) (by rfl) dm (by (try simp (disch:=omega) only [List.length_map,go_sem,reduceIte,Nat.reduceEqDiff,Nat.reduceAdd,Nat.reduceMul,hx]);try rfl) ?_|refine mM (by rfl) ?_|refine mQ (eV rfl) ?_|refine lu (by rfl) (by rfl) dm ?_|refine mZ (by rfl) ?_|refine jP af rfl ?_)
  refine uH (by rfl) aG bz (hv) ?_
  rintro _ rfl
  refine zG ⟨?_⟩
  cases hp:fin.getD q.toNat false with
  | true =>
   refine zF ⟨?_⟩
   refine ae ?_
   exact ⟨_,rfl,by simp only [Int.natCast_nonneg,true_iff];rw [zl083];exact ⟨q,hm,hp⟩⟩
  | false =>
   refine zF ⟨?_⟩
   exact aV [0,1,7,8] (k+1) ⟨hkl,by rw [htk,hp]⟩ (by omega) rfl
 ·have e0:l.take k=l:=kC (by omega)
  rw [e0] at hno
  refine zF ⟨?_⟩
  refine ae ?_
  exact ⟨_,rfl,by rw [hno];simp⟩
theorem Ym (fin:List Bool) (al:List A) (l:List Int) (hl:l.length<=9223372036854775807) (hin:∀k∈l,0<=k/\k<fin.length):HT Try.prog 79 [.sl l.length (HL.ints l),.fn 94 [.ptr [.sl fin.length (HL.bools fin),.sl al.length (recs aC al)] 0]] (fun r=>r=.bool (l.any fun k=>fin.getD k.toNat false)):=by
 refine HT.of rfl abb (bF rfl) ?_
 unfold c79
 simp only [ay,Nat.reduceAdd]
 refine zF ⟨?_⟩
 refine aX aG bz (Zo fin al l hl hin) ?_
 rintro _ ⟨z,rfl,hz⟩
 refine zG ⟨?_⟩
 by_cases h:0<=z
 ·rw [hz.1 h]
  refine zF ⟨?_⟩
  refine ae ?_
  rfl
 ·have:(l.any fun k=>fin.getD k.toNat false)=false:=by
   cases hb:(l.any fun k=>fin.getD k.toNat false) with
   | false=>rfl
   | true=>exact absurd (hz.2 hb) h
  rw [this]
  refine zF ⟨?_⟩
  refine ae ?_
  rfl
end Go.Proofs.Ytlbdmpjnmfmnfaa
