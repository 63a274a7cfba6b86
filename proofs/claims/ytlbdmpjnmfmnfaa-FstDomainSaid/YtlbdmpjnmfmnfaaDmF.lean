import Derived.Test.YtlbdmpjnmfmnfaaMnE
import Derived.Test.YtlbdmpjnmfmnfaaHlW
import Derived.Test.YtlbdmpjnmfmnfaaHlCv
import Derived.Test.YtlbdmpjnmfmnfaaR01
set_option linter.unusedSimpArgs false
set_option linter.unusedVariables false
set_option maxHeartbeats 16000000
section
namespace Go.Proofs.Ytlbdmpjnmfmnfaa
open Go.RowKit Go.HL Go.FS Go.MN
theorem ZL (c:Nat->Nat) (n:Nat):jm n (gf c n 0)=List.replicate n 0:=by
 apply qE
 ·simp [jm]
 ·intro j h1 h2
  simp [jm,gf]
theorem XA {p:Nat->Prop}:∀ (n:Nat),p n->∃m,p m/\∀k,p k->m<=k:=by
 intro n
 induction n using Nat.strongRecOn with
 | _ n ih =>
  intro h
  by_cases e:∃k,k<n/\p k
  ·obtain ⟨k,hk,hp⟩:=e;exact ih k hk hp
  ·exact ⟨n,h,fun k hp=>by
    rcases dX k n with h1|h1
    ·exact absurd ⟨k,h1,hp⟩ e
    ·exact h1⟩
theorem Done.ex {α:Type} [DecidableEq α] [Inhabited α] {δ:α->Nat->α} {sz:Nat} {a:α} {B:Nat} (h:∀i,(aK δ sz a i).1.length<=B):∃n,Done δ sz a n:=by
 obtain ⟨n,h1,h2⟩:=XA (p:=fun i=>(aK δ sz a i).1.length<=i) B (h B)
 have h3:∀j,j<n->j<(aK δ sz a j).1.length:=fun j hj=>by
  rcases dX j (aK δ sz a j).1.length with g|g
  ·exact g
  ·have:=h2 j g;omega
 refine ⟨n,?_,h3⟩
 rcases Nat.eq_zero_or_pos n with rfl|h0
 ·simp [aK] at h1
 ·obtain ⟨r,q,e,_⟩:=sW (δ:=δ) (sz:=sz) (a:=a) (i:=n - 1) (j:=n) (by omega)
  have:=h3 (n - 1) (by omega)
  have e2:=congrArg List.length e
  rw [dQ] at e2
  omega
theorem abj (d:Dz) (hv:okD d=true):HT Try.prog 95 [.agg (dC d)] (fun r=>∃rows fn,MinOf (bK d) (iW d) d.nx.length d.sz.toNat rows fn/\r=.agg (dC ⟨d.sz,rI rows,fn⟩)):=by
 obtain ⟨h1,h2,h3,h4,h5⟩:=lD hv
 have ok:=vN hv
 refine HT.ofC rfl ae5 [2] rfl (bF rfl) ?_
 unfold c95
 have hdv:=Jm d (by omega) (by omega) (fun r hr=>by
  obtain ⟨i,hi,rfl⟩:=uD hr
  have:=(mO hv hi).1
  simp only [bf,bn hi,fV] at this
  omega)
 rw [hv] at hdv
 have hdc:=OX d hv
 simp only [ay,Nat.reduceAdd,dC] at hdv hdc ⊢
 refine zF ⟨?_⟩
 refine aX aG (zW @fE) (hdv) ?_
 rintro _ rfl
 refine zG ⟨?_⟩
 refine zF ⟨?_⟩
 refine aX aG (zW @fE) (hdc) ?_
 rintro _ ⟨c,m,hcl,rfl⟩
 have hcn:=fun i (hi:i<d.nx.length)=>lI (hcl.lt hi) hcl.le
 refine zG ⟨?_⟩
 refine zF ⟨?_⟩
 rw [<- ZL c]
 refine aP 112 [1,2,3,4,5] (⟨[(1,.pref 0 [] 0),(2,.pref 1 [] 0),(3,.ptr (stripL [.osl 1 d.nx.length (HL.ints (jm d.nx.length c))]) 0),(4,.pref 2 [] 0),(5,.int .i64 ((d.nx.length:Int) - 1))],[(0,.optr [.int .i64 d.sz,.sl d.nx.length (iT d.nx),.sl d.fn.length (HL.bools d.fn)]),(1,.optr [.int .i64 0,.nils,.nils]),(2,.optr [.osl 1 d.nx.length (HL.ints (jm d.nx.length (gf c d.nx.length 0)))])],3⟩:St) rfl ?_
 refine aP 0 [1,2,3,4,5] (⟨[(1,.ptr (stripL [.int .i64 d.sz,.sl d.nx.length (iT d.nx),.sl d.fn.length (HL.bools d.fn)]) 0),(2,.pref 0 [] 0),(3,.ptr (stripL [.osl 1 d.nx.length (HL.ints (jm d.nx.length c))]) 0),(4,.pref 1 [] 0),(5,.int .i64 ((d.nx.length:Int) - 1))],[(0,.optr [.int .i64 0,.nils,.nils]),(1,.optr [.osl 1 d.nx.length (HL.ints (jm d.nx.length (gf c d.nx.length 0)))])],2⟩:St) rfl ?_
 have hs1:stripL [.int .i64 d.sz,.sl d.nx.length (iT d.nx),.sl d.fn.length (HL.bools d.fn)]=[.int .i64 d.sz,.sl d.nx.length (iT d.nx),.sl d.fn.length (HL.bools d.fn)]:=by simp [stripL,HV.strip,fE,HL.bools_strip]
 have hs2:∀l:List Int,stripL [.osl 1 d.nx.length (HL.ints l)]=[.sl d.nx.length (HL.ints l)]:=fun l=>by simp [stripL,HV.strip,HL.ints_strip]
 rw [hs1,hs2]
 refine aF [1,2,3,4,5] (fun t:Nat=>t<=d.nx.length) (fun t=>⟨[(1,.ptr [.int .i64 d.sz,.sl d.nx.length (iT d.nx),.sl d.fn.length (HL.bools d.fn)] 0),(2,.pref 0 [] 0),(3,.ptr [.sl d.nx.length (HL.ints (jm d.nx.length c))] 0),(4,.pref 1 [] 0),(5,.int .i64 ((d.nx.length:Int) - 1 - t))],[(0,.optr [.int .i64 0,.nils,.nils]),(1,.optr [.osl 1 d.nx.length (HL.ints (jm d.nx.length (gf c d.nx.length t)))])],2⟩)
  (fun t=>d.nx.length - t) 0 (dS _) (by rw [show (d.nx.length:Int) - 1 - ((0:Nat):Int)=(d.nx.length:Int) - 1 by omega];rfl) ?_
 intro t ht
 by_cases htl:t<d.nx.length
 ·obtain ⟨i,hie⟩:∃i,d.nx.length - 1 - t=i:=⟨_,rfl⟩
  have hil:i<d.nx.length:=by omega
  have hcl':=hcn i hil
  have hset0:=ab3 (c:=c) htl (by rw [hie];exact hcl')
  rw [hie] at hset0
  have hset:(HL.ints (jm d.nx.length (gf c d.nx.length t))).set (c i) (.int .i64 (i:Int))=HL.ints (jm d.nx.length (gf c d.nx.length (t+1))):=by rw [<- hset0];simp [HL.ints]
  have hci:=U7 c hil
  have e1:(d.nx.length:Int) - 1 - t=(i:Int):=by omega
  rw [e1]
  refine aU ?_
  refine aU ?_
  refine bg ?_
  refine zQ ⟨?_⟩
  refine fM (by rfl) ?_
  refine fF ?_
  refine aU ?_
  refine fD ?_
  refine bJ aA aA (fun _ _ _=>False) ?_
  refine fP (zA @hci @hset) ⟨?_⟩
  refine aV [1,2,3,4,5] (t+1) htl (by omega) ?_
  rw [show (d.nx.length:Int) - 1 - ((t+1:Nat):Int)=(i:Int) - 1 by omega]
  rfl
 ·obtain rfl:t=d.nx.length:=by omega
  rw [show (d.nx.length:Int) - 1 - (d.nx.length:Int) = -1 by omega]
  refine aU ?_
  refine aU ?_
  refine bg ?_
  refine zQ ⟨?_⟩
  refine fO (by rfl) ?_
  refine gJ (by rfl) ?_
  refine aP 1 [1,2,3,4] (⟨[(1,.ptr [.int .i64 d.sz,.sl d.nx.length (iT d.nx),.sl d.fn.length (HL.bools d.fn)] 0),(2,.pref 0 [] 0),(3,.ptr [.sl d.nx.length (HL.ints (jm d.nx.length c))] 0),(4,.ptr (stripL [.osl 1 d.nx.length (HL.ints (jm d.nx.length (gf c d.nx.length d.nx.length)))]) 0)],[(0,.optr [.int .i64 0,.nils,.nils])],1⟩:St) rfl ?_
  rw [hs2]
  obtain ⟨n,hD⟩:=Done.ex fun i=>y5 ok hcl i
  have hex:=(Qn d hv c m hcl).mono (K':=fun r=>r=.tup [.agg (dC ⟨d.sz,rI (aK (aI (bK d) c d.nx.length) d.sz.toNat (c 0) n).2,(aK (aI (bK d) c d.nx.length) d.sz.toNat (c 0) n).1.map (lg d c)⟩),.bool true]) fun r ⟨n',h1,h2⟩=>by rw [hD.unique h1];exact h2
  simp only [dC] at hex
  generalize hR:(aK (aI (bK d) c d.nx.length) d.sz.toNat (c 0) n).2=R at hex
  generalize hL:(aK (aI (bK d) c d.nx.length) d.sz.toNat (c 0) n).1.map (lg d c)=L at hex
  have hc0:(HL.ints (jm d.nx.length c)).getD 0 .dead=.int .i64 (c 0):=U7 c (by omega)
  refine aU ?_
  refine bJ aA aA (fun _ _ r=>r=.tup [.agg [.int .i64 d.sz,.sl (rI R).length (iT (rI R)),.sl L.length (HL.bools L)],.bool true]) ?_
  refine fP @hc0 ⟨?_⟩
  refine tY aG ?_
  refine zF ⟨?_⟩
  refine tY aG ?_
  refine zF ⟨?_⟩
  refine fG aG (zW @fE) hex ⟨_,rfl,by simp [HV.deep,aQ,kW,FC]⟩ ?_
  rintro _ rfl -
  refine zG ⟨?_⟩
  refine zF ⟨?_⟩
  refine ae ?_
  exact ⟨_,_,rfl,rfl,R,L,⟨c,m,n,hcl,hD,hR.symm,hL.symm⟩,by simp [bG,jf]⟩
def vS (al:List A) (l:List Int) (s:Int):List Int:=l.flatMap fun i=>((al.filter fun a=>a.f==i).filter fun a=>a.i==s).map (·.t)
theorem Vo (al:List A) (l:List Int) (i s:Int):vS al (l++[i]) s=vS al l s++((al.filter fun a=>a.f==i).filter fun a=>a.i==s).map (·.t):=by simp [vS]
theorem mem_byL {al:List A} {l:List Int} {s j:Int}:j∈vS al l s <-> ∃a∈al,a.f∈l/\a.i=s/\a.t=j:=by
 simp only [vS,zl055,zl020,zl058,beq_iff_eq]
 constructor
 ·rintro ⟨i,hi,a,⟨⟨ha,h1⟩,h2⟩,h3⟩;exact ⟨a,ha,by rw [h1];exact hi,h2,h3⟩
 ·rintro ⟨a,ha,h1,h2,h3⟩;exact ⟨a.f,h1,a,⟨⟨ha,rfl⟩,h2⟩,h3⟩
theorem FO (al:List A) (s:Int):∀l:List Int,(vS al l s).length<=l.length*al.length
 | []=>by simp [vS]
 | i::l=>by
  have h1:=FO al s l
  have h2:=List.length_filter_le (fun a:A=>a.i==s) (al.filter fun a=>a.f==i)
  have h3:=List.length_filter_le (fun a:A=>a.f==i) al
  have e:vS al (i::l) s=((al.filter fun a=>a.f==i).filter fun a=>a.i==s).map (·.t)++vS al l s:=by simp [vS]
  rw [e,dQ,List.length_map,List.length_cons,nU]
  omega
def inT (s:Int) (row:List A):List Int:=(row.filter fun a=>a.i==s).map (·.t)
theorem VV {s:Int} {row:List A} {j:Nat} (h:j<row.length):inT s (row.take (j+1))=if (row.getD j default).i=s then inT s (row.take j)++[(row.getD j default).t] else inT s (row.take j):=by
 unfold inT
 rw [rG,bn h,bf,bn h]
 simp only [Et,fV,ER,oW]
 by_cases e:row[j].i=s
 ·rw [if_pos e];simp [e]
 ·rw [if_neg e];simp [e]
theorem aaj (s:Int) (row:List A):(inT s row).length<=row.length:=by
 unfold inT;rw [List.length_map];exact List.length_filter_le _ _
theorem aav (al:List A) (n:Nat) (hn:n<=2048) (ha:al.length<=8192) (l:List Int) (s:Int) (hl:l.length<=2048) (hin:∀i∈l,0<=i/\i<n):HT Try.prog 90 [.sl l.length (HL.ints l),.int .i64 s,.ptr [.sl n (dH (aT (·.f) n al))] 0] (fun r=>r=.osl 1 (vS al l s).length (HL.ints (vS al l s))):=by
 refine HT.of rfl ae2 (bF rfl) ?_
 unfold c90
 simp only [ay,Nat.reduceAdd]
 refine zF ⟨?_⟩
 refine aF [1,2,6,11,12,13] (fun k:Nat=>k<=l.length)
  (fun k=>⟨[(1,.int .i64 s),(2,.ptr [.sl n (dH (aT (·.f) n al))] 0),(6,.ref 0 [] 1 0 (vS al (l.take k) s).length),(11,.sl l.length (HL.ints l)),(12,.int .i64 l.length),(13,.int .i64 k)],[(0,.osl 1 (vS al (l.take k) s).length (HL.ints (vS al (l.take k) s)))],1⟩)
  (fun k=>l.length - k) 0 (dS _) rfl ?_
 intro k hk
 have hBl:=FO al s (l.take k)
 rw [eu] at hBl
 have hBl2:min k l.length*al.length<=2048*8192:=CV (by omega) ha
 by_cases hkl:k<l.length
 ·have hx:(HL.ints l).getD k .dead=.int .i64 (l.getD k 0):=AX hkl
  have hm:l.getD k 0∈l:=by rw [bf,bn hkl];exact iD hkl
  obtain ⟨i0,i1⟩:=hin _ hm
  have htk:l.take (k+1)=l.take k++[l.getD k 0]:=by rw [rG];simp [hkl]
  have hsn:=Vo al (l.take k) (l.getD k 0) s
  rw [<- htk] at hsn
  generalize l.getD k 0=i at hx i0 i1 hsn
  have hrg:(aT (·.f) n al).getD i.toNat []=al.filter fun a=>a.f==i:=by
   rw [nH _ _ (by omega),Int.toNat_of_nonneg i0]
  have hrl:(al.filter fun a=>a.f==i).length<=8192:=sU (List.length_filter_le _ _) ha
  have hlt:i.toNat<(aT (·.f) n al).length:=by rw [iw];omega
  have hsn':vS al (l.take (k+1)) s=vS al (l.take k) s++inT s (al.filter fun a=>a.f==i):=hsn
  generalize (al.filter fun a=>a.f==i)=row at hrg hrl hsn'
  generalize vS al (l.take k) s=B at hBl hsn' ⊢
  repeat (first|refine AB af rfl ?_|refine rD bP ?_|refine bg ?_|refine aU ?_|refine uk (by rfl) (by rfl) DR ?_|refine fF ?_|refine fM (by rfl) ?_|refine fO (by rfl) ?_|refine uC (by rfl) (by rfl) ?_|refine fD ?_|refine qJ (by rfl) ?_|refine og (by rfl) ?_|refine ug (by rfl) bD (by (try simp (disch:=omega) only [go_sem,reduceIte,Nat.reduceEqDiff,Nat.reduceAdd,Nat.reduceMul,hx,hrg]);try rfl) az (by (try simp (disch:=omega) only [go_sem,hx,hrg]);try rfl) af ?_|refine sQ (by rfl) (by rfl) (by (try simp (disch:=omega) only [go_sem,Int.reduceAdd,Int.reduceSub,Int.reduceMul,hx,hrg]);try rfl) ?_|refine uS (by rfl) az (by (try simp (disch:=omega) only [go_sem,hx,hrg]);try rfl) ?_|refine uz (by rfl) (by rfl) (by omega) bP ?_|refine Az ?_|refine kK (by rfl) af ?_|refine kH (by rfl) af ?_|refine xK (by rfl) (by rfl) ?_|refine xW (by rfl) (by rfl) ?_|refine uK (by rfl) (by rfl) uA ?_|refine gJ (by rfl) ?_|refine Di (by rfl) (by rfl) ?_|refine yx (by rfl) (by rfl) DR ?_|refine CE (by rfl) af ak dK (by rfl) (by decide) bD ak az (by (try simp (disch:=omega) only [go_sem,hx,hrg]);try rfl) ak ?_|refine wU (by rfl) af ak jI uI (by rfl) wF (by rfl) wY (by (try simp (disch:=omega) only [go_sem,reduceIte,Nat.reduceEqDiff,Nat.reduceAdd,Nat.reduceMul,hx,hrg]);try rfl) az (by (try simp (disch:=omega) only [go_sem,hx,hrg]);try rfl) ak iL ?_|refine vg (by rfl) (by rfl) (by omega) bP ?_|refine nC (by rfl) ?_|refine qN bP ?_|refine jD ?_|refine sK (by rfl) az af ?_|refine oq rfl (by rfl) bP ?_|refine qR (by rfl) az (by (try simp (disch:=omega) only [go_sem,reduceIte,Nat.reduceEqDiff,Nat.reduceAdd,Nat.reduceMul,hx,hrg]);try rfl) ?_|refine uX (by rfl) (by rfl) uQ ?_|refine ou (by rfl) ?_|refine pJ (by rfl) bD ak az (by decide) (by (try simp (disch:=omega) only [go_sem,reduceIte,Nat.reduceEqDiff,Nat.reduceAdd,Nat.reduceMul,hx,hrg]);try rfl) dK ?_|refine qK bP (by rfl) af rU (by (try simp (disch:=omega) only [go_sem,reduceIte,Nat.reduceEqDiff,Nat.reduceAdd,Nat.reduceMul,hx,hrg]);try omega) (by omega) gz ?_|refine pI bP (by rfl) af rU (by (try simp (disch:=omega) only [go_sem,reduceIte,Nat.reduceEqDiff,Nat.reduceAdd,Nat.reduceMul,hx,hrg]);try omega) bD (by (try simp (disch:=omega) only [go_sem,reduceIte,Nat.reduceEqDiff,Nat.reduceAdd,Nat.reduceMul,hx,hrg]);try rfl) bP (by omega) gz az (by (try simp (disch:=omega) only [go_sem,reduceIte,Nat.reduceEqDiff,Nat.reduceAdd,Nat.reduceMul,hx,hrg]);try rfl) ak ?_|refine xI (by rfl) (by rfl) kM ?_|refine xH yA xZ (by simp [jM]) ?_|refine oz bP af ak dK (by rfl) ?_|refine xM (by rfl) (by rfl) (by (try simp (disch:=omega) only [go_sem,Int.reduceAdd,Int.reduceSub,Int.reduceMul,hx,hrg]);try rfl) ?_|refine ni (by rfl) ?_|refine yB (by rfl) (by rfl) kM ?_|refine mY af rfl ?_|refine qM bP (by rfl) (by omega) ak ak ?_|refine xG (by rfl) (by rfl) (by (try simp (disch:=omega) only [go_sem,Int.reduceAdd,Int.reduceSub,Int.reduceMul,hx,hrg]);try rfl) ?_|refine yc (by rfl) (by rfl) (by (try simp only [go_sem,reduceIte,hx,hrg]);try rfl) ?_|refine ve (by rfl) (by rfl) ?_|refine uT (by rfl) (by rfl) ?_|refine mP bP (by rfl) af rU x9 bD ak bP (by omega) gz az (by (try simp (disch:=omega) only [go_sem,reduceIte,Nat.reduceEqDiff,Nat.reduceAdd,Nat.reduceMul,hx,hrg]);try rfl) ak (by rfl) ?_|refine ww (by rfl) (by rfl) (by omega) (by (try simp (disch:=omega) only [go_sem,Int.reduceAdd,Int.reduceSub,Int.reduceMul,hx,hrg]);try rfl) ?_|refine yD (by rfl) (by rfl) (by omega) (by (try simp (disch:=omega) only [go_sem,Int.reduceAdd,Int.reduceSub,Int.reduceMul,hx,hrg]);try rfl) ?_|refine Fj (by rfl) (by rfl) (by (try simp only [go_sem,reduceIte,hx,hrg]);try rfl) ?_|refine qX bP aG ak jI (by simp) (by rfl) (by rfl) (by rfl) ?_|refine qV (by rfl) (by rfl) (by rfl) (by omega) ak bP (by (try simp (disch:=omega) only [go_sem,reduceIte,Nat.reduceEqDiff,Nat.reduceAdd,Nat.reduceMul,hx,hrg]);try rfl) ?_|refine iY ?_|refine mf (by rfl) (by rfl) dm af ⟨rfl,rfl⟩ (by (try simp (disch:=omega) only [go_sem,reduceIte,Nat.reduceEqDiff,Nat.reduceAdd,Nat.reduceMul,hx,hrg]);try rfl) (by rfl) ?_|refine xO (by rfl) (by rfl) (by (try simp (disch:=omega) only [go_sem,Int.reduceAdd,Int.reduceSub,Int.reduceMul,hx,hrg]);try rfl) ?_|refine Fq (by rfl) (by rfl) (by (try simp (disch:=omega) only [go_sem,Int.reduceAdd,Int.reduceSub,Int.reduceMul,hx,hrg]);try rfl) ?_|refine yj (by rfl) (by rfl) (by (try simp (disch:=omega) only [go_sem,Int.reduceAdd,Int.reduceSub,Int.reduceMul,hx,hrg]);try rfl) ?_|refine xQ (by rfl) (by rfl) (by omega) (by (try simp (disch:=omega) only [go_sem,Int.reduceAdd,Int.reduceSub,Int.reduceMul,hx,hrg]);try rfl) ?_|refine yu (by rfl) (by rfl) (by omega) (by (try simp (disch:=omega) only [go_sem,Int.reduceAdd,Int.reduceSub,Int.reduceMul,hx,hrg]);try rfl) ?_|refine x8 (by rfl) (by rfl) yl (by (try simp (disch:=omega) only [ng,go_sem,reduceIte,hx,hrg]);try rfl) ?_|refine qY (by rfl) (by (try simp only [go_sem,reduceIte,hx,hrg]);try rfl) ?_|refine wZ (by rfl) (by (try simp (disch:=omega) only [go_sem,Int.reduceAdd,Int.reduceSub,Int.reduceMul,hx,hrg]);try rfl) ?_|refine qQ (by rfl) (by (try simp (disch:=omega) only [go_sem,Int.reduceAdd,Int.reduceSub,Int.reduceMul,hx,hrg]);try rfl) ?_|refine xN (by rfl) af rU (by (try simp (disch:=omega) only [go_sem,reduceIte,Nat.reduceEqDiff,Nat.reduceAdd,Nat.reduceMul,hx,hrg]);try omega) (by (try simp only [go_sem,reduceIte,Nat.reduceEqDiff,Nat.reduceAdd,Nat.reduceMul,hx,hrg]);try rfl) (by (try simp (disch:=omega) only [go_sem,reduceIte,Nat.reduceEqDiff,Nat.reduceAdd,Nat.reduceMul,hx,hrg]);try rfl) dK (by omega) bD (by (try simp (disch:=omega) only [go_sem,reduceIte,Nat.reduceEqDiff,Nat.reduceAdd,Nat.reduceMul,hx,hrg]);try rfl) az (by (try simp (disch:=omega) only [go_sem,reduceIte,Nat.reduceEqDiff,Nat.reduceAdd,Nat.reduceMul,hx,hrg]);try rfl) ak ?_|refine yz (by rfl) az af ?_|refine qW (by rfl) az (by (try simp (disch:=omega) only [go_sem,reduceIte,Nat.reduceEqDiff,Nat.reduceAdd,Nat.reduceMul,hx,hrg]);try rfl) ?_|refine xJ bP af rfl ?_|refine qP (by rfl) ?_|refine qU (by rfl) (by omega) ?_|refine qL (by rfl) (by omega) ?_|refine mX bP ?_|refine xP (eV rfl) af ⟨rfl,rfl⟩ (by (try simp (disch:=omega) only [go_sem,reduceIte,Nat.reduceEqDiff,Nat.reduceAdd,Nat.reduceMul,hx,hrg]);try rfl) (by rfl) ?_|refine yw (by rfl) af (by rfl) (by rfl) ?_|refine jY (by rfl) af af gU (by trivial) gU dm ⟨rfl,rfl⟩ (by (try simp (disch:=omega) only [go_sem,reduceIte,Nat.reduceEqDiff,Nat.reduceAdd,Nat.reduceMul,hx,hrg]);try rfl) ak iL ?_|refine mJ (eV rfl) (by (try simp (disch:=omega) only [List.length_map,go_sem,reduceIte,Nat.reduceEqDiff,Nat.reduceAdd,Nat.reduceMul,hx,hrg]);try rfl) ?_|refine mV (by rfl) (by rfl) dm (by (try simp (disch:=omega) only [List.length_map,go_sem,reduceIte,Nat.reduceEqDiff,Nat.reduceAdd,Nat.reduceMul,hx,hrg]);try rfl) ?_|refine mM (by rfl) ?_|refine mQ (eV rfl) ?_|refine lu (by rfl) (by rfl) dm ?_|refine mZ (by rfl) ?_|refine jP af rfl ?_)
  refine aF [1,2,6,11,12,13,20,21,22] (fun j:Nat=>j<=row.length)
   (fun j=>⟨[(1,.int .i64 s),(2,.ptr [.sl n (dH (aT (·.f) n al))] 0),(6,.ref 0 [] 1 0 (B++inT s (row.take j)).length),(11,.sl l.length (HL.ints l)),(12,.int .i64 l.length),(13,.int .i64 k),(20,.sl row.length (recs aC row)),(21,.int .i64 row.length),(22,.int .i64 j)],[(0,.osl 1 (B++inT s (row.take j)).length (HL.ints (B++inT s (row.take j))))],1⟩)
   (fun j=>row.length - j) 0 (dS _) (by simp only [List.take_zero,inT,List.filter_nil,uG,List.append_nil];rfl) ?_
  intro j hj
  have hIl:=aaj s (row.take j)
  rw [eu] at hIl
  by_cases hjl:j<row.length
  ·have hst:=VV (s:=s) hjl
   have hCl:(B++inT s (row.take j)).length<=2048*8192+8192:=by rw [dQ];omega
   by_cases he:(row.getD j default).i=s
   ·rw [if_pos he] at hst
    have hcc:B++inT s (row.take (j+1))=B++inT s (row.take j)++[(row.getD j default).t]:=by rw [hst,tZ]
    have hcl:(B++inT s (row.take (j+1))).length=(B++inT s (row.take j)).length+1:=by rw [hcc,dQ];rfl
    generalize hC:B++inT s (row.take j)=C at hcc hcl hCl ⊢
    refine fP @he ⟨?_⟩
    refine aV [1,2,6,11,12,13,20,21,22] (j+1) hjl (by omega) ?_
    rw [hcl,hcc]
    rfl
   ·rw [if_neg he] at hst
    rw [<- hst]
    generalize hC:B++inT s (row.take (j+1))=C
    refine zF ⟨?_⟩
    refine aV [1,2,6,11,12,13,20,21,22] (j+1) hjl (by omega) ?_
    rw [hC]
    rfl
  ·obtain rfl:j=row.length:=by omega
   rw [ig,<- hsn']
   refine zF ⟨?_⟩
   exact aV [1,2,6,11,12,13] (k+1) hkl (by omega) rfl
 ·obtain rfl:k=l.length:=by omega
  rw [ig]
  refine zF ⟨?_⟩
  refine ae ?_
  rfl
def jX (n:Nat) (al:List A):List HV:=[.sl n (dH (aT (·.f) n al))]
theorem HT.frz1 {f:FuncId} {args:List HV} {L:List Int} (h:HT Try.prog f args (fun r=>r=.osl 1 L.length (HL.ints L))):HT Try.prog f args (fun r=>r=.sl L.length (HL.ints L)) :=
 h.frz.mono (by rintro _ ⟨_,rfl,rfl⟩;simp [HV.strip,HL.ints_strip])
theorem V8 (al:List A) (n:Nat) (hn:n<=2048) (ha:al.length<=8192) (i:Nat) (hi:i<n):HT Try.prog 92 [.int .i64 i,.ptr [.fn 90 [.ptr (jX n al) 0]] 0] (fun r=>r=.sl (vS al [(i:Int)] (-1)).length (HL.ints (vS al [(i:Int)] (-1)))):=by
 refine HT.frz1 ?_
 have hby:=aav al n hn ha [(i:Int)] (-1) (by simp) (by simp;omega)
 refine HT.of rfl aeF (bF rfl) ?_
 unfold c92
 simp only [ay,Nat.reduceAdd,jX] at hby ⊢
 generalize vS al [(i:Int)] (-1)=B at hby ⊢
 refine zF ⟨?_⟩
 refine uH (by rfl) aG (zW @fE) (hby) ?_
 rintro _ rfl
 refine zG ⟨?_⟩
 refine zF ⟨?_⟩
 refine ae ?_
 rfl
theorem Nl (fin:List Bool) (al:List A) (hk:∀a∈al,0<=a.f/\a.f<fin.length/\0<=a.t/\a.t<fin.length) (hn:fin.length<=2048) (ha:al.length<=8192) (L:List Int) (hl:L.length<=200000) (hL:∀j∈L,0<=j/\j<fin.length) :
  HTM Try.prog 91 [.osl 1 L.length (HL.ints L),.ptr [.sl fin.length (HL.bools fin),.sl al.length (recs aC al)] 0,.ptr [.fn 90 [.ptr (jX fin.length al) 0]] 0]
   (fun r=>∃rb,rb.length=fin.length/\(∀i,rb.getD i false=true <-> Rn (fun i=>vS al [(i:Int)] (-1)) L i)/\r=.osl 1 (wo rb fin.length).length (HL.ints (wo rb fin.length))):=by
 refine HTM.of rfl aef (bF rfl) (⟨[(0,.ref 0 [] 1 0 L.length),(1,.ptr [.sl fin.length (HL.bools fin),.sl al.length (recs aC al)] 0),(2,.ptr [.fn 90 [.ptr (jX fin.length al) 0]] 0)],[(0,.osl 1 L.length (HL.ints L))],1⟩:St) rfl ?_
 unfold c91
 have hw:=Vg 92 [.fn 90 [.ptr (jX fin.length al) 0]] fin.length 8192 (fun i=>vS al [(i:Int)] (-1)) L hn (fun i _=>by have:=FO al (-1) [(i:Int)];simp only [zO,Es] at this;omega) (by omega) hl (fun i hi j hj=>by
  obtain ⟨a,h1,_,_,rfl⟩:=mem_byL.1 hj
  have:=hk a h1;omega) hL (fun i hi=>V8 al fin.length hn ha i hi)
 refine zF ⟨?_⟩
 refine tY aG ?_
 refine zF ⟨?_⟩
 refine zY [] [] aG Aw OM rfl (by decide) (hw) ?_
 rintro _ outs ⟨rb,rfl,hrl,hrc⟩ hol
 obtain rfl:=gI hol
 have hfin:=IL rb (by omega)
 rw [hrl] at hfin
 refine ⟨_,_,_,_,_,IB,(by decide),DI,?_⟩
 refine aX aG bz (hfin) ?_
 rintro _ rfl
 refine zG ⟨?_⟩
 refine zF ⟨?_⟩
 refine ae ?_
 exact ⟨rb,hrl,hrc,rfl⟩
end Go.Proofs.Ytlbdmpjnmfmnfaa
end
