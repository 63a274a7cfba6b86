import Derived.Test.YtjlidhijnohkbaaGrW
import Derived.Test.YtjlidhijnohkbaaGrPut
import Derived.Test.YtjlidhijnohkbaaHlW
set_option linter.unusedSimpArgs false
set_option linter.unusedVariables false
set_option maxHeartbeats 8000000
namespace Go.Proofs.Ytjlidhijnohkbaa
open Go.RowKit Go.HL
theorem yR (n m:Int) (hm:0<m) : -m<n.tmod m/\n.tmod m<m:=⟨Int.lt_tmod_of_pos n hm,Int.tmod_lt_of_pos n hm⟩
theorem SX (n m:Int) (hm:0<m):(n.tmod m+m).tmod m=n % m:=by
 have h1:=(yR n m hm).1
 rw [Int.tmod_eq_emod_of_nonneg (by omega),Int.add_emod_right,Int.tmod_eq_emod]
 split
 ·simp
 ·have e:(m.natAbs:Int)=m:=Int.natAbs_of_nonneg (by omega)
  rw [e]
  have:=Int.add_emod_right (n % m - m) m
  rw [<- this];simp
theorem pM (n m:Int) (hm:0<m) (hb:m<=1000000):HT Try.prog 13 [.int .i64 n,.int .i64 m] (fun r=>r=.int .i64 (n % m)):=by
 refine HT.of rfl TR (gZ rfl) ?_
 unfold c13
 simp only [aB,Nat.reduceAdd]
 have h1:=yR n m hm
 have h2:=SX n m hm
 refine kE @h2 ⟨?_⟩
 refine az ?_
 simp [fJ]
theorem D7 (l:List Int) (i:Int) (h0:0<=i) (hi:i<=100000) (hl:l.length<=9223372036854775807):HT Try.prog 32 [I l,.int .i64 i] (fun r=>∃x,r=.int .i64 x /\ -2000000<=x/\x<=2000000):=by
 refine HT.of rfl Un (gZ rfl) ?_
 unfold c32
 simp only [I,aB,Nat.reduceAdd]
 by_cases he:l.length=0
 ·refine zF ⟨?_⟩
  refine az ?_
  exact ⟨0,by simp [fJ],by omega,by omega⟩
 ·have a1:i.tmod l.length=i % l.length:=Int.tmod_eq_emod_of_nonneg h0
  have a2:i.tdiv l.length=i / l.length:=Int.tdiv_eq_ediv_of_nonneg h0
  have a3:0<=i % l.length:=Int.emod_nonneg _ (by omega)
  have a4:i % l.length<l.length:=Int.emod_lt_of_pos _ (by omega)
  have a5:0<=i / l.length:=Int.ediv_nonneg h0 (by omega)
  have a6:i / l.length<=i:=Int.ediv_le_self _ h0
  have a7:=yR (l.getD (i % l.length).toNat 0) 1048576 (by omega)
  refine kE (zA @a1 @a2) ⟨?_⟩
  refine iL bM bM (fun _ _ _=>False) ?_
  generalize hq:i / (l.length:Int)=q at a2 a5 a6
  generalize hp:i % (l.length:Int)=p at a1 a3 a4 a7
  refine kE (zA @a1 @a2) ⟨?_⟩
  refine az ?_
  exact ⟨_,rfl,by omega,by omega⟩
def jd:List Nat->Nat->List Nat
 | [],v=>[v]
 | a::r,v=>if v<a then v::a::r else if v=a then a::r else a::jd r v
theorem zH (l:List Nat) (v x:Nat):x∈jd l v <-> x=v\/x∈l:=by
 induction l with
 | nil=>simp [jd]
 | cons a r ih =>
  unfold jd
  split
  ·simp
  ·split
   ·rename_i h;subst h;simp
   ·simp only [zl008,ih]
    constructor
    ·rintro (h|h|h)
     ·exact .inr (.inl h)
     ·exact .inl h
     ·exact .inr (.inr h)
    ·rintro (h|h|h)
     ·exact .inr (.inl h)
     ·exact .inl h
     ·exact .inr (.inr h)
theorem xN {l:List Nat} (v:Nat) (h:l.Pairwise (·<·)):(jd l v).Pairwise (·<·):=by
 induction l with
 | nil=>simp [jd]
 | cons a r ih =>
  obtain ⟨h1,h2⟩:=zl072.1 h
  unfold jd
  split
  ·rename_i hva
   refine zl072.2 ⟨fun x hx=>?_,h⟩
   rcases zl008.1 hx with rfl|hx
   ·exact hva
   ·have:=h1 x hx;omega
  ·split
   ·exact h
   ·refine zl072.2 ⟨fun x hx=>?_,ih h2⟩
    rcases (zH r v x).1 hx with rfl|hx
    ·omega
    ·exact h1 x hx
theorem FD (l:List Nat) (v:Nat):(jd l v).length<=l.length+1:=by
 induction l with
 | nil=>simp [jd]
 | cons a r ih=>unfold jd;split<;>(try split)<;>simp<;>omega
theorem Ec (v:Int):∀ (l:List Int) (acc:List Int),(∀x∈l,v<x)->l.foldl (jL v) (acc,true)=(acc++l,true):=by
 intro l
 induction l with
 | nil=>intro acc _;simp
 | cons a r ih =>
  intro acc h
  have ha:=h a (by simp)
  rw [List.foldl_cons]
  have e:jL v (acc,true) a=(acc++[a],true):=by simp [jL,show ¬ a=v by omega]
  rw [e,ih _ fun x hx=>h x (by simp [hx])]
  simp
theorem EO (v:Nat):∀ (l:List Nat) (acc:List Int),l.Pairwise (·<·)->(let p:=(nl l).foldl (jL v) (acc,false);if p.2 then p.1 else p.1++[(v:Int)])=acc++nl (jd l v):=by
 intro l
 induction l with
 | nil=>intro acc _;simp [nl,jd]
 | cons a r ih =>
  intro acc h
  obtain ⟨h1,h2⟩:=zl072.1 h
  have e:nl (a::r)=(a:Int)::nl r:=rfl
  rw [e,List.foldl_cons]
  by_cases hva:v<=a
  ·have hr:∀x∈nl r,(v:Int)<x:=fun x hx=>by
    obtain ⟨y,hy,rfl⟩:=zl023.1 hx
    have:=h1 y hy
    show (v:Int)<(y:Int)
    omega
   have e2:jL v (acc,false) (a:Int)=(acc++[(v:Int)]++(if v=a then [] else [(a:Int)]),true):=by
    simp only [jL]
    rw [if_pos ⟨trivial,by omega⟩]
    have e3:decide ((v:Int)<=(a:Int))=true:=by simp;omega
    rw [e3]
    by_cases hh:v=a
    ·rw [if_pos (by omega),if_pos hh];rfl
    ·rw [if_neg (by omega),if_neg hh];rfl
   rw [e2,Ec _ _ _ hr]
   have ep:jd (a::r) v=if v<a then v::a::r else if v=a then a::r else a::jd r v:=rfl
   rw [ep]
   by_cases hh:v=a
   ·subst hh;simp [nl]
   ·rw [if_neg hh,if_pos (show v<a by omega)];simp [nl]
  ·have e2:jL v (acc,false) (a:Int)=(acc++[(a:Int)],false):=by
    simp only [jL]
    rw [if_neg (fun h=>by omega),if_neg (by omega)]
    have e3:decide ((v:Int)<=(a:Int))=false:=by simp;omega
    rw [e3];simp
   rw [e2,ih _ h2]
   have ep:jd (a::r) v=if v<a then v::a::r else if v=a then a::r else a::jd r v:=rfl
   rw [ep,if_neg (show ¬ v<a by omega),if_neg (show ¬ v=a by omega)]
   simp [nl]
theorem Oy {l:List Nat} (v:Nat) (h:l.Pairwise (·<·)):KZ (nl l) v=nl (jd l v):=by
 have:=EO v l [] h
 unfold KZ su
 rw [lV]
 simpa using this
theorem yO (l:List Nat) (v:Nat) (hl:l.length<=1000) (hs:l.Pairwise (·<·)):HT Try.prog 30 [I (nl l),.int .i64 v] (fun r=>r=.osl 1 (jd l v).length (HL.ints (nl (jd l v)))):=by
 have:=Qa (nl l) v (by rw [bH];omega)
 rw [Oy v hs,bH] at this
 exact this
structure Gx (n:Nat) (nd:List (List Nat)) (bad:List Bool):Prop where
 bads:bad.length=nd.length
 lt:∀i j,j∈nd.getD i []->j<n
 sorted:∀i,(nd.getD i []).Pairwise (·<·)
 few:∀i,(nd.getD i []).length<=3
theorem wX {α:Type} (l:List α) (x:α) (i:Nat) (d:α):(l++[x]).getD i d=if i=l.length then x else l.getD i d:=by
 by_cases h:i<l.length
 ·rw [if_neg (by omega)];simp [FU h]
 ·by_cases h2:i=l.length
  ·subst h2;simp
  ·rw [if_neg h2];simp [jb (show l.length<=i by omega),jb (show (l++[x]).length<=i by simp;omega)]
theorem Gx.snoc {n:Nat} {nd:List (List Nat)} {bad:List Bool} (g:Gx n nd bad) {x:List Nat} (b:Bool) (h1:∀j∈x,j<n) (h2:x.Pairwise (·<·)) (h3:x.length<=3):Gx n (nd++[x]) (bad++[b]):=by
 refine ⟨by simp [g.bads],fun i j hj=>?_,fun i=>?_,fun i=>?_⟩
 ·rw [wX] at hj
  split at hj
  ·exact h1 j hj
  ·exact g.lt i j hj
 ·rw [wX];split;exact h2;exact g.sorted i
 ·rw [wX];split;exact h3;exact g.few i
theorem PG (l:List Int) (n:Nat) (hn:n<=256) (hl:l.length<=9223372036854775807):HT Try.prog 12 [I l,.int .i64 n] (fun r=>∃nd bad,r=.tup [.osl 1 n (dR nd),.osl 1 n (HL.bools bad)]/\nd.length=n/\Gr nd bad/\∀i,(nd.getD i []).length<=3):=by
 refine HT.of rfl Ux (gZ rfl) ?_
 unfold c12
 simp only [I,aB,Nat.reduceAdd]
 refine zM ⟨?_⟩
 refine aQ [0,1,6,7,8] (fun s:Nat×List (List Nat)×List Bool=>s.1<=n/\s.2.1.length=s.1/\Gx n s.2.1 s.2.2)
  (fun s=>⟨[(0,.sl l.length (HL.ints l)),(1,.int .i64 n),(6,.ref 0 [] 1 0 s.1),(7,.ref 1 [] 1 0 s.1),(8,.int .i64 s.1)],[(0,.osl 1 s.1 (dR s.2.1)),(1,.osl 1 s.1 (HL.bools s.2.2))],2⟩)
  (fun s=>n - s.1) (0,[],[]) ⟨by simp,rfl,⟨rfl,by simp,by simp,by simp⟩⟩ rfl ?_
 rintro ⟨i,nd,bad⟩ ⟨hi,hnd,g⟩
 simp only at hi hnd g ⊢
 have hbl:=g.bads
 by_cases hin:i<n
 ·refine zM ⟨?_⟩
  refine bU aY iQ (D7 l (5*i) (by omega) (by omega) hl) ?_
  rintro _ ⟨x,rfl,hx1,hx2⟩
  refine zG ⟨?_⟩
  refine zM ⟨?_⟩
  refine bU aY iQ (pM x 4 (by omega) (by omega)) ?_
  rintro _ rfl
  have hm0:=Int.emod_nonneg x (show (4:Int)≠0 by omega)
  have hm1:=Int.emod_lt_of_pos x (show (0:Int)<4 by omega)
  obtain ⟨many,hmany⟩:∃m:Nat,(m:Int)=x % 4:=⟨(x % 4).toNat,by omega⟩
  rw [<- hmany] at hm0 hm1 ⊢
  refine zG ⟨?_⟩
  clear hmany hx1 hx2
  refine zM ⟨?_⟩
  refine aQ [0,1,6,7,8,9,10,11] (fun s:Nat×Nat×List Nat=>s.1<=many/\s.2.2.length=s.2.1/\s.2.1<=s.1/\(∀j∈s.2.2,j<n)/\s.2.2.Pairwise (·<·))
   (fun s=>⟨[(0,.sl l.length (HL.ints l)),(1,.int .i64 n),(6,.ref 0 [] 1 0 i),(7,.ref 1 [] 1 0 i),(8,.int .i64 i),(9,.ref 2 [] 1 0 s.2.1),(10,.int .i64 many),(11,.int .i64 s.1)],[(0,.osl 1 i (dR nd)),(1,.osl 1 i (HL.bools bad)),(2,.osl 1 s.2.1 (HL.ints (nl s.2.2)))],3⟩)
   (fun s=>many - s.1) (0,0,[]) ⟨by simp,rfl,by simp,by simp,.nil⟩ rfl ?_
  rintro ⟨k,q,x⟩ ⟨hk,hq,hqk,hlt,hs⟩
  simp only at hk hq hqk hlt hs ⊢
  subst hq
  have hxl:=bH x
  by_cases hkm:k<many
  ·refine zM ⟨?_⟩
   refine bU aY iQ (D7 l (5*i+k+1) (by omega) (by omega) hl) ?_
   rintro _ ⟨at_,rfl,hx1,hx2⟩
   refine zG ⟨?_⟩
   have fin:∀v:Nat,v<n->(jd x v).length<=k+1/\(∀j∈jd x v,j<n)/\(jd x v).Pairwise (·<·):=fun v hv =>
    ⟨by have:=FD x v;omega,fun j hj=>by rcases (zH x v j).1 hj with rfl|hj;exact hv;exact hlt j hj,xN v hs⟩
   have last:∀ (m:Int),0<m->m<=n->∃v:Nat,(v:Int)=(at_.tdiv 7) % m/\v<n:=fun m h0 h1=>by
    have e0:=Int.emod_nonneg (at_.tdiv 7) (show m≠0 by omega)
    have e1:=Int.emod_lt_of_pos (at_.tdiv 7) h0
    exact ⟨((at_.tdiv 7) % m).toNat,by omega,by omega⟩
   have hmin:(if (256:Int)<(n:Int) then (256:Int) else (n:Int))=n:=by rw [if_neg (by omega)]
   have hd7 : -2000000<=at_.tdiv 7/\at_.tdiv 7<=2000000:=by
    rcases Int.le_total 0 at_ with h|h
    ·rw [Int.tdiv_eq_ediv_of_nonneg h];omega
    ·have:at_.tdiv 7 = -((-at_) / 7):=by rw [<- Int.tdiv_eq_ediv_of_nonneg (show 0 <= -at_ by omega),Int.neg_tdiv,Int.neg_neg]
     rw [this];omega
   by_cases hi0:i=0
   ·obtain ⟨v,hv1,hv2⟩:=last n (by omega) (by omega)
    obtain ⟨f1,f2,f3⟩:=fin v hv2
    refine P7 @hmin ⟨?_⟩
    refine bU aY iQ (pM (at_.tdiv 7) n (by omega) (by omega)) ?_
    rintro _ rfl
    rw [<- hv1]
    refine zG ⟨?_⟩
    refine zM ⟨?_⟩
    refine bU aY (zW @bH) (yO x v (by omega) hs) ?_
    rintro _ rfl
    refine zG ⟨?_⟩
    refine zM ⟨?_⟩
    exact bg [0,1,6,7,8,9,10,11] (k+1,(jd x v).length,jd x v) ⟨hkm,rfl,f1,f2,f3⟩ dD rfl
   ·refine zM ⟨?_⟩
    refine bU aY iQ (pM at_ 7 (by omega) (by omega)) ?_
    rintro _ rfl
    refine zG ⟨?_⟩
    by_cases h6:at_ % 7<6
    ·obtain ⟨v,hv1,hv2⟩:=last i (by omega) (by omega)
     obtain ⟨f1,f2,f3⟩:=fin v hv2
     refine zM ⟨?_⟩
     refine bU aY iQ (pM (at_.tdiv 7) i (by omega) (by omega)) ?_
     rintro _ rfl
     rw [<- hv1]
     refine zG ⟨?_⟩
     refine zM ⟨?_⟩
     refine bU aY (zW @bH) (yO x v (by omega) hs) ?_
     rintro _ rfl
     refine zG ⟨?_⟩
     refine zM ⟨?_⟩
     exact bg [0,1,6,7,8,9,10,11] (k+1,(jd x v).length,jd x v) ⟨hkm,rfl,f1,f2,f3⟩ dD rfl
    ·obtain ⟨v,hv1,hv2⟩:=last n (by omega) (by omega)
     obtain ⟨f1,f2,f3⟩:=fin v hv2
     refine P7 @hmin ⟨?_⟩
     refine bU aY iQ (pM (at_.tdiv 7) n (by omega) (by omega)) ?_
     rintro _ rfl
     rw [<- hv1]
     refine zG ⟨?_⟩
     refine zM ⟨?_⟩
     refine bU aY (zW @bH) (yO x v (by omega) hs) ?_
     rintro _ rfl
     refine zG ⟨?_⟩
     refine zM ⟨?_⟩
     exact bg [0,1,6,7,8,9,10,11] (k+1,(jd x v).length,jd x v) ⟨hkm,rfl,f1,f2,f3⟩ dD rfl
  ·have hsn:=uA nd x rfl
   refine kE @hsn ⟨?_⟩
   refine bU aY iQ (D7 l (5*i+4) (by omega) (by omega) hl) ?_
   rintro _ ⟨at_,rfl,hx1,hx2⟩
   refine zG ⟨?_⟩
   refine zM ⟨?_⟩
   refine bU aY iQ (pM at_ 11 (by omega) (by omega)) ?_
   rintro _ rfl
   refine zG ⟨?_⟩
   generalize at_ % 11=a11
   refine ni (by rfl) (by rfl) ny ?_
   refine zF ⟨?_⟩
   exact bg [0,1,6,7,8] (i+1,nd++[x],bad++[a11==0]) ⟨hin,by simp [hnd],g.snoc _ hlt hs (by omega)⟩ dD rfl
 ·obtain rfl:i=n:=by omega
  refine zM ⟨?_⟩
  refine az ?_
  exact ⟨nd,bad,rfl,hnd,⟨by omega,hbl,fun i j hj=>by rw [hnd];exact g.lt i j hj,g.sorted⟩,g.few⟩
end Go.Proofs.Ytjlidhijnohkbaa
