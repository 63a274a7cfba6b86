import Derived.Test.YtlbdmpjnmfmnfaaFwG
import Derived.Test.YtlbdmpjnmfmnfaaFt2
import Derived.Test.YtlbdmpjnmfmnfaaFs3
import Derived.Test.YtlbdmpjnmfmnfaaFsB
import Derived.Test.YtlbdmpjnmfmnfaaHlFi
set_option linter.unusedSimpArgs false
set_option linter.unusedVariables false
set_option linter.unnecessarySimpa false
set_option maxHeartbeats 16000000
section
namespace Go.Proofs.Ytlbdmpjnmfmnfaa
open Go.RowKit Go.HL Go.FS
def rowA (i:Nat) (row:List Int) (k:Nat):List A:=(List.range k).map fun s:Nat=>⟨i,s,s,row.getD s 0⟩
theorem CP {i k:Nat} {row:List Int}:(rowA i row k).length=k:=by simp [rowA]
theorem D7 {i k:Nat} {row:List Int}:rowA i row (k+1)=rowA i row k++[⟨i,k,k,row.getD k 0⟩]:=by simp [rowA,Jb]
def allT (d:Dz) (i:Nat):List A:=(List.range i).flatMap fun j=>rowA j (d.nx.getD j []) (d.nx.getD j []).length
theorem zI {d:Dz} {i:Nat}:allT d (i+1)=allT d i++rowA i (d.nx.getD i []) (d.nx.getD i []).length:=by simp [allT,Jb]
def allA (d:Dz):List A:=allT d d.nx.length
theorem wQ {d:Dz} (h:okD d=true):1<=d.sz/\d.sz<=64/\1<=d.nx.length/\d.nx.length<=2048/\d.fn.length=d.nx.length:=by
 simp only [okD,bC,decide_eq_true_eq] at h;exact h.1
theorem wF {d:Dz} (h:okD d=true) {i:Nat} (hi:i<d.nx.length):((d.nx.getD i []).length:Int)=d.sz/\∀s,s<(d.nx.getD i []).length->0<=(d.nx.getD i []).getD s 0/\(d.nx.getD i []).getD s 0<d.nx.length:=by
 simp only [okD,bC,zl021] at h
 have hm:d.nx.getD i []∈d.nx:=by rw [bH,bM hi];exact gy hi
 have h2:=h.2 _ hm
 simp only [rowOk,bC,decide_eq_true_eq,zl021] at h2
 refine ⟨h2.1,fun s hs=>?_⟩
 have hm2:(d.nx.getD i []).getD s 0∈d.nx.getD i []:=by
  have e:(d.nx.getD i []).getD s 0=(d.nx.getD i [])[s]:=by rw [bH,bM hs];rfl
  rw [e];exact gy hs
 have:=h2.2 _ hm2
 simpa only [Bv,decide_eq_true_eq] using this
theorem XU {i k:Nat} {row:List Int} {a:A}:a∈rowA i row k <-> ∃s:Nat,s<k/\a=⟨i,s,s,row.getD s 0⟩:=by
 simp only [rowA,zl031,zl050]
 exact ⟨fun ⟨s,h1,h2⟩=>⟨s,h1,h2.symm⟩,fun ⟨s,h1,h2⟩=>⟨s,h1,h2.symm⟩⟩
theorem mem_allT {d:Dz} {m:Nat} {a:A}:a∈allT d m <-> ∃i:Nat,i<m/\∃s:Nat,s<(d.nx.getD i []).length/\a=⟨i,s,s,(d.nx.getD i []).getD s 0⟩:=by
 simp only [allT,zl065,zl050,XU]
theorem yc {d:Dz} (h:okD d=true) {m:Nat} (hm:m<=d.nx.length):(allT d m).length<=m*64:=by
 induction m with
 | zero=>simp [allT]
 | succ m ih =>
  have h1:=ih (by omega)
  have h2:=(wF h (i:=m) (by omega)).1
  have h3:=(wQ h).2.1
  rw [zI,bD,CP]
  omega
theorem RN {d:Dz} (h:okD d=true) {m:Nat} (hm:m<=d.nx.length) {a:A} (ha:a∈allT d m):0<=a.f/\a.f<d.nx.length/\0<=a.t/\a.t<d.nx.length /\ -1<=a.i/\a.i<64 /\ -1<=a.o/\a.o<64:=by
 obtain ⟨i,hi,s,hs,rfl⟩:=mem_allT.1 ha
 have h1:=wF h (i:=i) (by omega)
 have h2:=h1.2 s hs
 have h3:=(wQ h).2.1
 simp only
 omega
theorem XH {d:Dz} (h:okD d=true) (hn:d.nx.length<=100):okF d.fn (allA d)=true:=by
 obtain ⟨h1,h2,h3,h4,h5⟩:=wQ h
 have hl:=yc h (bg _)
 refine KU (by omega) (by omega) (by unfold allA;omega) fun a ha=>?_
 rw [h5];exact RN h (bg _) ha
open Classical in
noncomputable def kpO (d:Dz) (a:A):Bool:=decide (Rc (allA d) (·.f) (·.t) (·=0) a.f.toNat/\Rc (allA d) (·.t) (·.f) (fun j=>d.fn.getD j false=true) a.t.toNat)
noncomputable def GN (d:Dz):List Bool×List A:=if okD d=true then (d.fn,(allA d).filter (kpO d)) else ([],[])
theorem Xh {d:Dz} {rb lb:List Bool} (hr:∀i,rb.getD i false=true <-> Rc (allA d) (·.f) (·.t) (·=0) i) (hl:∀i,lb.getD i false=true <-> Rc (allA d) (·.t) (·.f) (fun j=>d.fn.getD j false=true) i) (a:A):kpO d a=(rb.getD a.f.toNat false&&lb.getD a.t.toNat false):=by
 rw [Bool.eq_iff_iff,bC,hr,hl];simp [kpO]
theorem PL {p:A->Bool} {l:List A} {a:A}:(l++[a]).filter p=if p a=true then l.filter p++[a] else l.filter p:=by
 rw [Ey]
 by_cases h:p a=true
 ·rw [if_pos h];simp [h]
 ·rw [if_neg h];simp [h]
theorem VU {p:A->Bool} {l:List A} {k:Nat} (h:k<l.length):(l.take (k+1)).filter p=if p (l.getD k default)=true then (l.take k).filter p++[l.getD k default] else (l.take k).filter p:=by
 rw [bK h,PL]
theorem xZ (d:Dz):stripL [.int .i64 d.sz,.sl d.nx.length (iT d.nx),.sl d.fn.length (HL.bools d.fn)]=[.int .i64 d.sz,.sl d.nx.length (iT d.nx),.sl d.fn.length (HL.bools d.fn)]:=by simp [stripL,HV.strip,yZ,HL.bools_strip]
theorem XA (F:List Bool) (X:List A) (n m:Nat):stripL [.sl n (HL.bools F),.osl 4 m (recs aC X)]=[.sl n (HL.bools F),.sl m (recs aC X)]:=by simp [stripL,HV.strip,HL.bools_strip,gQ]
theorem Lh (F:List Bool) {n:Nat} (h:F.length=n):stripL (win (HL.bools F) 0 (n*1))=HL.bools F:=by
 rw [eG _ (by simp [HL.bools,h]),HL.bools_strip]
theorem Xz (d:Dz) (h1:d.nx.length<=100) (h2:d.fn.length<=100) (h3:∀r∈d.nx,r.length<=1000000):HT Try.prog 44 [.agg (dC d)] (fun r=>r=.agg (fC (GN d))):=by
 refine HT.ofC rfl afl [2] rfl (aZ rfl) ?_
 unfold c44
 have v1:=Rx d (by omega) (by omega) h3
 simp only [aA,Nat.reduceAdd]
 simp only [dC,fC] at v1 ⊢
 refine zF ⟨?_⟩
 refine aF ay aK (v1) ?_
 rintro _ rfl
 by_cases hv:okD d=true
 ·rw [hv]
  obtain ⟨d1,d2,d3,d4,d5⟩:=wQ hv
  have hok:=XH hv h1
  have hm1:=Qe d.fn (allA d) hok
  have hm2:=PX d.fn (allA d) hok
  have hle:∀i,i<=d.nx.length->(allT d i).length<=6400:=fun i hi=>by have:=yc hv hi;omega
  simp only [dE,fB] at hm1 hm2
  refine zG ⟨?_⟩
  refine zF ⟨?_⟩
  refine aX 128 [1,4] [1,2,3,4] (⟨[(1,.pref 0 [] 0),(2,.pref 1 [] 0),(3,.pref 2 [] 0),(4,.int .i64 0)],[(0,.optr [.int .i64 d.sz,.sl d.nx.length (iT d.nx),.sl d.fn.length (HL.bools d.fn)]),(1,.optr [.nils,.nils]),(2,.optr [.sl d.fn.length (HL.bools d.fn),.osl 4 0 []])],3⟩:St) rfl rfl ?_
  refine az 0 [1,2,3,4] ⟨[(1,.ptr (stripL [.int .i64 d.sz,.sl d.nx.length (iT d.nx),.sl d.fn.length (HL.bools d.fn)]) 0),(2,.pref 0 [] 0),(3,.pref 1 [] 0),(4,.int .i64 0)],[(0,.optr [.nils,.nils]),(1,.optr [.sl d.fn.length (HL.bools d.fn),.osl 4 0 []])],2⟩ rfl ?_
  rw [xZ]
  refine aI [1,2,3,4] (fun i:Nat=>i<=d.nx.length)
   (fun i=>⟨[(1,.ptr [.int .i64 d.sz,.sl d.nx.length (iT d.nx),.sl d.fn.length (HL.bools d.fn)] 0),(2,.pref 0 [] 0),(3,.pref 1 [] 0),(4,.int .i64 i)],[(0,.optr [.nils,.nils]),(1,.optr [.sl d.fn.length (HL.bools d.fn),.osl 4 (allT d i).length (recs aC (allT d i))])],2⟩)
   (fun i=>d.nx.length - i) 0 (by omega) rfl ?_
  intro i hi
  have hli:=hle i hi
  by_cases hil:i<d.nx.length
  ·obtain ⟨r1,r2⟩:=wF hv hil
   have hst:=zI (d:=d) (i:=i)
   obtain ⟨row,hrow⟩:∃row,d.nx.getD i []=row:=⟨_,rfl⟩
   rw [hrow] at r1 r2 hst
   generalize allT d i=T at hst hli ⊢
   refine zF ⟨?_⟩
   refine aI [1,2,3,4,5] (fun k:Nat=>k<=row.length)
    (fun k=>⟨[(1,.ptr [.int .i64 d.sz,.sl d.nx.length (iT d.nx),.sl d.fn.length (HL.bools d.fn)] 0),(2,.pref 0 [] 0),(3,.pref 1 [] 0),(4,.int .i64 i),(5,.int .i64 k)],[(0,.optr [.nils,.nils]),(1,.optr [.sl d.fn.length (HL.bools d.fn),.osl 4 (T++rowA i row k).length (recs aC (T++rowA i row k))])],2⟩)
    (fun k=>row.length - k) 0 (by omega) (by simp [rowA];rfl) ?_
   intro k hk
   have hTl:(T++rowA i row k).length<=6400+k:=by rw [bD,CP];omega
   by_cases hkl:k<row.length
   ·have hs2:T++rowA i row (k+1)=(T++rowA i row k)++[⟨i,k,k,row.getD k 0⟩]:=by rw [D7,kQ]
    generalize T++rowA i row k=Q at hs2 hTl ⊢
    refine zF ⟨?_⟩
    refine iW [1,4,5] [3] ah ah (fun _ _ _=>False) (by simp [ax,HV.deep,aO,bJ,zx]) (by simp [ax,HV.deep,aO]) ?_
    refine eH @hrow ⟨?_⟩
    refine aP [1,2,3,4,5] (k+1) hkl (by omega) ?_
    rw [hs2]
    simp only [bD,jQ]
    rfl
   ·obtain rfl:k=row.length:=by omega
    rw [<- hst]
    refine zF ⟨?_⟩
    exact aP [1,2,3,4] (i+1) hil (by omega) rfl
  ·obtain rfl:i=d.nx.length:=by omega
   have hall:allT d d.nx.length=allA d:=rfl
   rw [hall] at hli ⊢
   refine aH ?_
   refine aH ?_
   refine au ?_
   refine zQ ⟨?_⟩
   refine bu (by rfl) ?_
   refine iY (by rfl) ?_
   refine az 1 [1,2,3] ⟨[(1,.ptr [.int .i64 d.sz,.sl d.nx.length (iT d.nx),.sl d.fn.length (HL.bools d.fn)] 0),(2,.pref 0 [] 0),(3,.ptr (stripL [.sl d.fn.length (HL.bools d.fn),.osl 4 (allA d).length (recs aC (allA d))]) 0)],[(0,.optr [.nils,.nils])],1⟩ rfl ?_
   rw [XA]
   refine zF ⟨?_⟩
   refine aF ay aK (hm1) ?_
   rintro _ ⟨rb,rfl,hrl,hrc⟩
   refine zG ⟨?_⟩
   refine zF ⟨?_⟩
   refine aF ay aK (hm2) ?_
   rintro _ ⟨lb,rfl,hll,hlc⟩
   refine zG ⟨?_⟩
   have hkp:=Xh hrc hlc
   have ho:GN d=(d.fn,(allA d).filter (kpO d)):=by unfold GN;rw [if_pos hv]
   generalize kpO d=kp at hkp ho
   generalize allA d=L at hli ho hok
   refine zF ⟨?_⟩
   refine aX 177 [1,4] [2,3,6,7,8,9] (⟨[(2,.pref 0 [] 0),(3,.ptr [.sl d.fn.length (HL.bools d.fn),.sl L.length (recs aC L)] 0),(6,.ref 1 [] 1 0 d.fn.length),(7,.ref 2 [] 1 0 d.fn.length),(8,.pref 3 [] 0),(9,.int .i64 0)],[(0,.optr [.nils,.nils]),(1,.osl 1 d.fn.length (HL.bools rb)),(2,.osl 1 d.fn.length (HL.bools lb)),(3,.optr [.osl 1 d.fn.length (HL.bools d.fn),.osl 4 0 []])],4⟩:St) rfl rfl ?_
   refine az 1 [2,3,6,7,8,9] ⟨[(2,.pref 0 [] 0),(3,.ptr [.sl d.fn.length (HL.bools d.fn),.sl L.length (recs aC L)] 0),(6,.sl d.fn.length (stripL (win (HL.bools rb) 0 (d.fn.length*1)))),(7,.ref 1 [] 1 0 d.fn.length),(8,.pref 2 [] 0),(9,.int .i64 0)],[(0,.optr [.nils,.nils]),(1,.osl 1 d.fn.length (HL.bools lb)),(2,.optr [.osl 1 d.fn.length (HL.bools d.fn),.osl 4 0 []])],3⟩ rfl ?_
   rw [Lh rb hrl]
   refine az 1 [2,3,6,7,8,9] ⟨[(2,.pref 0 [] 0),(3,.ptr [.sl d.fn.length (HL.bools d.fn),.sl L.length (recs aC L)] 0),(6,.sl d.fn.length (HL.bools rb)),(7,.sl d.fn.length (stripL (win (HL.bools lb) 0 (d.fn.length*1)))),(8,.pref 1 [] 0),(9,.int .i64 0)],[(0,.optr [.nils,.nils]),(1,.optr [.osl 1 d.fn.length (HL.bools d.fn),.osl 4 0 []])],2⟩ rfl ?_
   rw [Lh lb hll]
   refine aI [2,3,6,7,8,9] (fun k:Nat=>k<=L.length)
    (fun k=>⟨[(2,.pref 0 [] 0),(3,.ptr [.sl d.fn.length (HL.bools d.fn),.sl L.length (recs aC L)] 0),(6,.sl d.fn.length (HL.bools rb)),(7,.sl d.fn.length (HL.bools lb)),(8,.pref 1 [] 0),(9,.int .i64 k)],[(0,.optr [.nils,.nils]),(1,.optr [.osl 1 d.fn.length (HL.bools d.fn),.osl 4 ((L.take k).filter kp).length (recs aC ((L.take k).filter kp))])],2⟩)
    (fun k=>L.length - k) 0 (by omega) (by simp;rfl) ?_
   intro k hk
   have hfl:((L.take k).filter kp).length<=k:=jc (List.length_filter_le _ _) (by rw [dS];omega)
   by_cases hkl:k<L.length
   ·have hst:=VU (p:=kp) hkl
    rw [hkp] at hst
    have ha:=cu hok (fJ hkl)
    cases c1:rb.getD (L.getD k default).f.toNat false with
    | false =>
     rw [c1,JB,if_neg (by simp)] at hst
     refine eH @c1 ⟨?_⟩
     exact aP [2,3,6,7,8,9] (k+1) hkl (by omega) (by rw [hst];rfl)
    | true =>
     cases c2:lb.getD (L.getD k default).t.toNat false with
     | false =>
      rw [c1,c2,Bool.and_false,if_neg (by simp)] at hst
      refine eH (zA @c1 @c2) ⟨?_⟩
      exact aP [2,3,6,7,8,9] (k+1) hkl (by omega) (by rw [hst];rfl)
     | true =>
      rw [c1,c2,Bool.and_self,if_pos rfl] at hst
      generalize (L.take k).filter kp=Q at hst hfl ⊢
      refine eH (zA @c1 @c2) ⟨?_⟩
      refine iW [3,9] [8] ah ah (fun _ _ _=>False) (by simp [ax,HV.deep,aO,bJ,bP]) (by simp [ax,HV.deep,aO]) ?_
      refine zF ⟨?_⟩
      refine aP [2,3,6,7,8,9] (k+1) hkl (by omega) ?_
      rw [hst]
      simp only [bD,jQ]
      rfl
   ·obtain rfl:k=L.length:=by omega
    rw [fK] at hfl ⊢
    generalize L.filter kp=Q at hfl ho ⊢
    refine aH ?_
    refine aH ?_
    refine au ?_
    refine zQ ⟨?_⟩
    refine bu (by rfl) ?_
    refine iY (by rfl) ?_
    refine aH ?_
    refine aH ?_
    refine au ?_
    refine zQ ⟨?_⟩
    refine bu (by rfl) ?_
    refine jD ?_
    refine az 1 [2,8] ⟨[(2,.pref 0 [] 0),(8,.ptr (stripL [.osl 1 d.fn.length (HL.bools d.fn),.osl 4 Q.length (recs aC Q)]) 0)],[(0,.optr [.nils,.nils])],1⟩ rfl ?_
    rw [fD]
    refine zF ⟨?_⟩
    refine ae ?_
    exact ⟨_,_,rfl,rfl,by rw [ho];rfl⟩
 ·have ho:GN d=([],[]):=by unfold GN;rw [if_neg hv]
  rw [show okD d=false by simpa using hv]
  refine zG ⟨?_⟩
  refine zF ⟨?_⟩
  refine aX 16 [1,4] [2] (⟨[(2,.pref 0 [] 0)],[(0,.optr [.osl 1 0 [],.osl 4 0 []])],1⟩:St) rfl rfl ?_
  refine bQ 0 [2] ⟨[(2,.pref 0 [] 0)],[(0,.optr [.sl 0 [],.sl 0 []])],1⟩ rfl rfl ?_
  refine ae ?_
  exact ⟨_,_,rfl,rfl,by rw [ho];rfl⟩
theorem acb (ll:List (List Int)) (i n:Nat) (sz:Int) (m:Nat) (fb:List HV) (hi:i<n) (hl:ll.length=n) (hb:(ll.getD i []).length<=100000):HT Try.prog 86 [.int .i64 i,.ptr [.int .i64 sz,.sl n (iT ll),.sl m fb] 0] (fun r=>r=.sl (ll.getD i []).length (HL.ints (ll.getD i []))):=by
 refine HT.of rfl afO (aZ rfl) ?_
 unfold c86
 simp only [aA,Nat.reduceAdd]
 refine zF ⟨?_⟩
 refine ae ?_
 rfl
theorem acW (ll:List (List Int)) (i n:Nat) (hi:i<n) (hl:ll.length=n) (hb:(ll.getD i []).length<=100000):HT Try.prog 87 [.int .i64 i,.ptr [.sl n (iT ll)] 0] (fun r=>r=.sl (ll.getD i []).length (HL.ints (ll.getD i []))):=by
 refine HT.of rfl agF (aZ rfl) ?_
 unfold c87
 simp only [aA,Nat.reduceAdd]
 refine zF ⟨?_⟩
 refine ae ?_
 rfl
end Go.Proofs.Ytlbdmpjnmfmnfaa
end
section
namespace Go.HL
open Go.RowKit
def rows1:HV->HV
 | .osl sz n cs=>.osl sz n (stripL cs)
 | v=>v
theorem OW.rows1 {F:Nat->Prop} {h:Hp} {vs:List HV} {rvs:List Value} {fs:List Nat} (o:OW F h dG vs rvs fs):∃f2,f2.Sublist fs/\∀F':Nat->Prop,(∀b,F b->F' b)->(∀b∈fs,b ∉ f2->F' b)->fs.Nodup->OW F' h dG (vs.map Go.HL.rows1) rvs f2:=by
 generalize hR:dG=R at o
 have app:∀ {f1 fs f2:List Nat} {F':Nat->Prop},f2.Sublist fs->(f1++fs).Nodup->(∀b∈f1++fs,b ∉ f1++f2->F' b)->(∀b∈fs,b ∉ f2->F' b):=fun {f1 fs f2 F'} hs hn hF b hb hb2=>hF b (by simp [hb]) fun hm=>by
  rcases zl003.1 hm with h|h
  ·exact (zl006.1 hn).2.2 b h b hb rfl
  ·exact hb2 h
 induction o with
 | nil=>exact ⟨[],.slnil,fun _ _ _ _=>.nil⟩
 | leaf _ _ _ _ _ _ g=>subst hR;exact g.elim
 | int _ ih=>obtain ⟨f2,h1,h2⟩:=ih hR;subst hR;exact ⟨f2,h1,fun F' a b c=>.int (h2 F' a b c)⟩
 | bool _ ih=>obtain ⟨f2,h1,h2⟩:=ih hR;subst hR;exact ⟨f2,h1,fun F' a b c=>.bool (h2 F' a b c)⟩
 | str _ ih=>obtain ⟨f2,h1,h2⟩:=ih hR;subst hR;exact ⟨f2,h1,fun F' a b c=>.str (h2 F' a b c)⟩
 | nils _ ih=>obtain ⟨f2,h1,h2⟩:=ih hR;subst hR;exact ⟨f2,h1,fun F' a b c=>.nils (h2 F' a b c)⟩
 | nilp _ ih=>obtain ⟨f2,h1,h2⟩:=ih hR;subst hR;exact ⟨f2,h1,fun F' a b c=>.nilp (h2 F' a b c)⟩
 | nilf _ ih=>obtain ⟨f2,h1,h2⟩:=ih hR;subst hR;exact ⟨f2,h1,fun F' a b c=>.nilf (h2 F' a b c)⟩
 | dead _ ih=>obtain ⟨f2,h1,h2⟩:=ih hR;subst hR;exact ⟨f2,h1,fun F' a b c=>.dead (h2 F' a b c)⟩
 | nilm _ ih=>obtain ⟨f2,h1,h2⟩:=ih hR;subst hR;exact ⟨f2,h1,fun F' a b c=>.nilm (h2 F' a b c)⟩
 | sl0 _ ih=>obtain ⟨f2,h1,h2⟩:=ih hR;subst hR;exact ⟨f2,h1,fun F' a b c=>.sl0 (h2 F' a b c)⟩
 | osl0 _ ih=>obtain ⟨f2,h1,h2⟩:=ih hR;subst hR;exact ⟨f2,h1,fun F' a b c=>.osl0 (h2 F' a b c)⟩
 | sl a b c d e _ _ ih=>obtain ⟨f2,h1,h2⟩:=ih hR;subst hR;exact ⟨f2,h1,fun F' x y z=>.sl (x _ a) b c d (e.stable (fun _ _=>rfl) (fun b hb=>⟨x b hb,rfl⟩) (fun _ _ h=>h)) (h2 F' x y z)⟩
 | ptr a b c d _ _ ih=>obtain ⟨f2,h1,h2⟩:=ih hR;subst hR;exact ⟨f2,h1,fun F' x y z=>.ptr (x _ a) b c (d.stable (fun _ _=>rfl) (fun b hb=>⟨x b hb,rfl⟩) (fun _ _ h=>h)) (h2 F' x y z)⟩
 | rmap a b c d _ _ ih=>obtain ⟨f2,h1,h2⟩:=ih hR;subst hR;exact ⟨f2,h1,fun F' x y z=>.rmap (x _ a) b c (d.stable (fun _ _=>rfl) (fun b hb=>⟨x b hb,rfl⟩) (fun _ _ h=>h)) (h2 F' x y z)⟩
 | @osl R sz n cs g off cap cur e rvs f1 r rr fs a b c d e' f x _ _ ih =>
  obtain ⟨f2,h1,h2⟩:=ih hR
  subst hR
  refine ⟨[g]++f2,by simpa using h1.trans (List.sublist_append_right f1 fs),fun F' y z hn=>?_⟩
  have hn2:=zl006.1 hn
  have hn3:=zl027.1 hn2.1
  have hi:∀b∈f1,F' b:=fun b hb=>z b (by simp [hb]) fun hm=>by
   rcases zl003.1 hm with h|h
   ·simp only [zl009] at h;subst h;exact hn3.1 hb
   ·exact hn2.2.2 b (by simp [hb]) b (h1.subset h) rfl
  have i1:=x.strip (fun _ _ h=>h) hi y
  have hl:(stripL cs).length=cs.length:=i1.length.trans x.length.symm
  have hr:=h2 F' y (fun b hb hb2=>z b (by simp [hb]) fun hm=>by
   rcases zl003.1 hm with h|h
   ·simp only [zl009] at h;exact hn2.2.2 b (by simp [h]) b hb rfl
   ·exact hb2 h) hn2.2.1
  exact .osl a (by rw [hl];exact b) (by rw [hl];exact c) d e' f i1 hr
 | @optr R cs g cur e f1 r rr fs a b _ _ ih =>
  obtain ⟨f2,h1,h2⟩:=ih hR
  subst hR
  exact ⟨(g::f1)++f2,h1.append_left _,fun F' y z hn=>.optr a (b.stable (fun _ _=>rfl) (fun b hb=>⟨y b hb,rfl⟩) (fun _ _ h=>h)) (h2 F' y (app h1 hn z) (zl006.1 hn).2.1)⟩
 | @omap R m ks cs g es ck f1 r rr fs a b c _ _ ih =>
  obtain ⟨f2,h1,h2⟩:=ih hR
  subst hR
  exact ⟨(g::f1)++f2,h1.append_left _,fun F' y z hn=>.omap a b (c.stable (fun _ _=>rfl) (fun b hb=>⟨y b hb,rfl⟩) (fun _ _ h=>h)) (h2 F' y (app h1 hn z) (zl006.1 hn).2.1)⟩
 | @oitr R b s l c g r rr fs a _ ih =>
  obtain ⟨f2,h1,h2⟩:=ih hR
  subst hR
  exact ⟨(g::[])++f2,h1.append_left _,fun F' y z hn=>.oitr a (h2 F' y (app h1 hn z) (zl006.1 hn).2.1)⟩
 | @agg R cs rvs f1 r rr fs a _ _ ih =>
  obtain ⟨f2,h1,h2⟩:=ih hR
  subst hR
  exact ⟨f1++f2,h1.append_left _,fun F' y z hn=>.agg (a.stable (fun _ _=>rfl) (fun b hb=>⟨y b hb,rfl⟩) (fun _ _ h=>h)) (h2 F' y (app h1 hn z) (zl006.1 hn).2.1)⟩
 | @tup R cs rvs f1 r rr fs a _ _ ih =>
  obtain ⟨f2,h1,h2⟩:=ih hR
  subst hR
  exact ⟨f1++f2,h1.append_left _,fun F' y z hn=>.tup (a.stable (fun _ _=>rfl) (fun b hb=>⟨y b hb,rfl⟩) (fun _ _ h=>h)) (h2 F' y (app h1 hn z) (zl006.1 hn).2.1)⟩
 | @fn R f cs rvs f1 r rr fs a _ _ ih =>
  obtain ⟨f2,h1,h2⟩:=ih hR
  subst hR
  exact ⟨f1++f2,h1.append_left _,fun F' y z hn=>.fn (a.stable (fun _ _=>rfl) (fun b hb=>⟨y b hb,rfl⟩) (fun _ _ h=>h)) (h2 F' y (app h1 hn z) (zl006.1 hn).2.1)⟩
theorem Weak.freezeRows {s:St} (id:Nat) {cs:List HV} (hid:s.M id=.optr cs):Weak s ⟨s.sl.map fun p=>(p.1,p.2.kill id 0),(id,.optr (cs.map rows1))::s.st,s.nx⟩:=by
 intro E a w ⟨loc,fp,hr⟩
 have hM:∀k,(⟨s.sl.map fun p=>(p.1,p.2.kill id 0),(id,.optr (cs.map rows1))::s.st,s.nx⟩:St).M k=if id=k then .optr (cs.map rows1) else s.M k:=fun k=>rfl
 obtain ⟨-,hk⟩:=hr.kill id 0
 have htr:=hr.tree id (by rw [hid];simp)
 rw [hid] at htr
 obtain ⟨g,cur,e,f1,hloc,hfp,hg,how⟩:∃g cur e f1,loc id=.pointer (some ⟨g,0,none⟩)/\fp id=g::f1/\w.heap[g]?=some (.cells cur e (0,0))/\OW (dY E fp w) w.heap dG cs cur.toList f1:=by
  generalize loc id=lv at htr
  generalize fp id=fs at htr
  cases htr with
  | leaf _ _ h3=>exact absurd rfl (h3.1 _)
  | @optr _ _ g cur e f1 _ _ _ h1 h2 h3 =>
   cases h3
   exact ⟨g,cur,e,f1,rfl,by simp,h1,h2⟩
 obtain ⟨f2,hsub2,hrows⟩:=OW.rows1 how
 let fp':Nat->List Nat:=fun k=>if k=id then g::f2 else fp k
 have hsub:∀k b,b∈fp' k->b∈fp k:=fun k b hb=>by
  simp only [fp'] at hb
  split at hb
  ·rename_i hk;rw [hk,hfp];rcases zl011.1 hb with h|h;simp [h];simp [hsub2.subset h]
  ·exact hb
 have hfz:∀b,dY E fp w b->dY E fp' w b:=fun b ⟨h1,h2,h3⟩=>⟨h1,h2,fun k hk=>h3 k (hsub k b hk)⟩
 have hF:∀b,dY E fp w b->dY E fp' w b/\w.heap[b]?=w.heap[b]?:=fun b hb=>⟨hfz b hb,rfl⟩
 have hnd0:=hr.nodup id
 rw [hfp] at hnd0
 have hlt:=hr.lt id
 rw [hfp] at hlt
 have hf1:∀b∈f1,b ∉ f2->dY E fp' w b:=fun b hb hnb=>by
  refine ⟨hlt b (by simp [hb]),fun hB=>?_,fun k hk=>?_⟩
  ·rcases hr.fresh id b (by rw [hfp];simp [hb]) with h|h
   ·omega
   ·exact .inr h
  ·by_cases e:k=id
   ·subst e
    simp only [fp',if_true] at hk
    rcases zl011.1 hk with hk|hk
    ·subst hk;exact (zl027.1 hnd0).1 hb
    ·exact hnb hk
   ·simp only [fp',if_neg e] at hk
    exact hr.apart k id e b hk (by rw [hfp];simp [hb])
 have hs:OW (dY E fp' w) w.heap dG (cs.map rows1) cur.toList f2:=hrows _ hfz hf1 (zl027.1 hnd0).2
 refine ⟨loc,fp',⟨hr.below,hr.base,hr.size,fun k hkd=>?_,fun k hkd=>?_,fun k hkn=>?_,fun k=>?_,fun i j hij b hb hb'=>?_,fun k b hb=>hr.fresh k b (hsub k b hb),fun t=>?_,hr.defers⟩⟩
 ·rw [hM] at hkd ⊢
  by_cases e:id=k
  ·subst e
   rw [if_pos rfl]
   simp only [fp',if_true]
   rw [hloc]
   have:=OW.optr (R:=dG) hg hs .nil
   simpa using this
  ·rw [if_neg e] at hkd ⊢
   simp only [fp',if_neg (fun h=>e h.symm:¬ k=id)]
   exact (hr.tree k hkd).stable (fun _ _=>rfl) hF (fun _ _ h=>h)
 ·rw [hM] at hkd
  by_cases e:id=k
  ·subst e;rw [if_pos rfl] at hkd;cases hkd
  ·rw [if_neg e] at hkd
   simp only [fp',if_neg (fun h=>e h.symm:¬ k=id)]
   exact hr.gone k hkd
 ·rw [hM]
  by_cases e:id=k
  ·subst e
   have:=hr.new id hkn
   rw [hid] at this;cases this
  ·rw [if_neg e];exact hr.new k hkn
 ·by_cases e:k=id
  ·simp only [fp',if_pos e];exact zl027.2 ⟨fun h=>(zl027.1 hnd0).1 (hsub2.subset h),(zl027.1 hnd0).2.sublist hsub2⟩
  ·simp only [fp',if_neg e];exact hr.nodup k
 ·exact hr.apart i j hij b (hsub i b hb) (hsub j b hb')
 ·have hS:(⟨s.sl.map fun p=>(p.1,p.2.kill id 0),(id,.optr (cs.map rows1))::s.st,s.nx⟩:St).S t=(s.S t).kill id 0:=by
   show ax t (s.sl.map _)=_
   unfold St.S
   generalize s.sl=l
   induction l with
   | nil=>rfl
   | cons p r ih =>
    obtain ⟨k,v⟩:=p
    simp only [dV,ax]
    split
    ·rfl
    ·exact ih
  rw [hS]
  refine (hk t).stable (fun _ h=>by cases h) hF ?_
  rintro v rv ⟨hv,hc⟩
  obtain ⟨i,hi,hilt⟩:=hv.isRef
  by_cases e:i=id
  ·subst e
   cases v<;>simp only [fF,cO,reduceCtorEq] at hi
   ·subst hi
    rename_i p sz off n
    obtain ⟨a1,a2,a0,a4,a3⟩:=hv
    have hp:p=[]:=by
     have:=hc _ p (.inl ⟨_,_,_,rfl⟩)
     cases p with
     | nil=>rfl
     | cons=>exact absurd ⟨rfl,by simp⟩ this
    subst hp
    have:s.M _=.optr cs:=hid
    exact absurd this (a4 cs)
   ·subst hi
    rename_i p off
    obtain ⟨a1,a2,a0,a3⟩:=hv
    have hp:p=[]:=by
     have:=hc _ p (.inr (.inl ⟨_,rfl⟩))
     cases p with
     | nil=>rfl
     | cons=>exact absurd ⟨rfl,by simp⟩ this
    subst hp
    refine ⟨a1,a2,a0,fun _=>?_⟩
    have h1:s.M _=.optr cs:=hid
    exact a3 (by show isPt (s.M _);rw [h1];trivial)
   ·subst hi
    rename_i p
    obtain ⟨a1,a2,a0,a4,a3⟩:=hv
    have hp:p=[]:=by
     have:=hc _ p (.inr (.inr rfl))
     cases p with
     | nil=>rfl
     | cons=>exact absurd ⟨rfl,by simp⟩ this
    subst hp
    have:s.M _=.optr cs:=hid
    exact absurd this (a4 cs)
  ·exact hv.stay hr (bg _) hi (by rw [hM,if_neg (fun h=>e h.symm)]) rfl (fun _ _=>rfl)
theorem IL {P:Program} {k:List HI} {Q:HE->St->Prop} {x:HCode} {sl st:List (Nat×HV)} {nx:Nat} (id:Nat) (keep:List Nat) {cs:List HV} (s0:St) (hid:ax id st=.optr cs)
  (hn:norm2 keep ⟨sl.map fun p=>(p.1,p.2.kill id 0),(id,.optr (cs.map rows1))::st,nx⟩=s0) (h:hx P (.c x::k) Q s0):hx P (.c x::k) Q ⟨sl,st,nx⟩ :=
 jX ((Weak.freezeRows (s:=⟨sl,st,nx⟩) id hid).trans (hn▸Weak.norm2 keep _)) h
end Go.HL
end
