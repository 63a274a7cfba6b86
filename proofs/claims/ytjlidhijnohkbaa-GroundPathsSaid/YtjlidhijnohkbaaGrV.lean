import Derived.Test.YtjlidhijnohkbaaGrMul
import Derived.Test.YtjlidhijnohkbaaHlW
import Derived.Test.YtjlidhijnohkbaaGrPlain
set_option linter.unusedSimpArgs false
set_option linter.unusedVariables false
set_option maxRecDepth 100000
set_option maxHeartbeats 4000000
section
namespace Go.Proofs.Ytjlidhijnohkbaa
open Go.RowKit Go.HL
def rp (n k:Nat):List Int:=List.replicate k (-1)++List.replicate (n - k) 0
theorem L9 {n k:Nat} (h:k<=n):(rp n k).length=n:=by simp [rp];omega
theorem O5 (n:Nat):List.replicate n (0:Int)=rp n 0:=by simp [rp]
theorem Jg (n:Nat):rp n n=List.replicate n (-1):=by simp [rp]
theorem MZ {n k:Nat} (h:k<n):(rp n k).set k (-1)=rp n (k+1):=by
 unfold rp
 rw [I9 _ _ (by simp)]
 obtain ⟨d,hd⟩:∃d,n - k=d+1:=⟨n - k - 1,by omega⟩
 have hd2:n - (k+1)=d:=by omega
 rw [hd,hd2]
 simp only [List.length_replicate,Nat.sub_self,Cf (n:=d),List.set_cons_zero]
 rw [List.replicate_succ' (n:=k)]
 simp
theorem Pe (n:Nat):∀ (q k:Nat),k+q<=n->setFrom (HL.ints (rp n k)) k (HL.ints (List.replicate q (-1)))=HL.ints (rp n (k+q)):=by
 intro q
 induction q with
 | zero=>intro k _;rfl
 | succ q ih =>
  intro k h
  have e:HL.ints (List.replicate (q+1) (-1))=.int .i64 (-1)::HL.ints (List.replicate q (-1)):=by rw [Cf];rfl
  rw [e,setFrom,HL.ints_set,MZ (by omega),ih (k+1) (by omega)]
  congr 2;omega
theorem Qu {n k:Nat} (h:k<=n):win (HL.ints (rp n k)) 0 k=HL.ints (List.replicate k (-1)):=by
 unfold win
 split
 ·rename_i hc
  have:k=n:=by have:=hc.2;rw [HL.ints_len,L9 h] at this;exact this
  subst this;rw [Jg]
 ·have e:HL.ints (rp n k)=HL.ints (List.replicate k (-1))++HL.ints (List.replicate (n - k) 0):=by simp [rp,HL.ints]
  rw [e,List.drop_zero,LD (by simp [HL.ints]),mW (by simp [HL.ints])]
theorem Pv (k q:Nat) (h:q<=k):(HL.ints (List.replicate k (-1))).take q=HL.ints (List.replicate q (-1)):=by
 simp [HL.ints,List.take_replicate];omega
theorem JG:∀n:Nat,n<257->IntKind.u64.wrap (n:Int)=n:=by decide +kernel
theorem Qv (n:Nat) (h0:0<n) (h1:n<=256):HT Try.prog 47 [.sl 1 [.int .i64 (-1)],.int .i64 n] (fun r=>r=.osl 1 n (HL.ints (List.replicate n (-1)))):=by
 have hu:=JG n (by omega)
 have hu1:IntKind.u64.wrap 1=1:=by decide
 refine HT.of rfl Rx (gZ rfl) ?_
 unfold Uk
 simp only [aB,Nat.reduceAdd]
 refine kE (zA @hu @hu1) ⟨?_⟩
 refine bU aY iQ (Qq n h0 h1) ?_
 rintro _ rfl
 refine zG ⟨?_⟩
 have hmin:min 1 n=1:=by omega
 have hs1:(List.replicate n (0:Int)).set 0 (-1)=rp n 1:=by rw [O5,MZ (by omega)]
 have hrl:(List.replicate n (0:Int)).length=n:=by simp
 refine kE (zA @hmin @hs1) ⟨?_⟩
 refine aQ [7,8] (fun k:Nat=>0<k/\k<=n) (fun k=>⟨[(7,.ref 0 [] 1 0 n),(8,.int .i64 k)],[(0,.osl 1 n (HL.ints (rp n k)))],1⟩) (fun k=>n - k) 1 ⟨by omega,by omega⟩ rfl ?_
 rintro k ⟨hk0,hk⟩
 by_cases hkn:k<n
 ·obtain ⟨q,hq,hq0,hq1,hq2⟩:∃q,min k ((n:Int) - k).toNat=q/\0<q/\q<=k/\k+q<=n:=⟨_,rfl,by omega,by omega,by omega⟩
  have hfill:=Pe n q k hq2
  have hwin:=Qu hk
  have htake:=Pv k q hq1
  have hlen:=L9 hk
  refine zF ⟨?_⟩
  refine iL bM bM (fun _ _ _=>False) ?_
  refine kE (zA @hq (zA @hwin (zA @htake @hfill))) ⟨?_⟩
  exact bg [7,8] (k+q) ⟨by omega,hq2⟩ (by omega) rfl
 ·obtain rfl:k=n:=by omega
  refine zF ⟨?_⟩
  refine az ?_
  rw [Jg];rfl
def aO (l:List (List Int)):List HV:=l.map fun r=>.sl r.length (HL.ints r)
def Gs (l:List (List Int)):HV:=.sl l.length (aO l)
theorem KN (l:List (List Int)):(aO l).length=l.length:=by simp [aO]
theorem KH (l:List (List Int)) {i:Nat} (h:i<l.length):(aO l).getD i .dead=.sl (l.getD i []).length (HL.ints (l.getD i [])):=by simp [aO,h]
theorem xu (l:List (List Int)):stripL (aO l)=aO l:=by
 induction l with
 | nil=>rfl
 | cons a l ih=>unfold aO at ih ⊢;simp only [iy,stripL,HV.strip,HL.ints_strip,ih]
attribute [go_sem] KH KN
def nl (l:List Nat):List Int:=l.map fun x:Nat=>(x:Int)
theorem mQ {α:Type} {l:List α} {k:Nat} {d:α} (h:k<l.length):l.getD k d=l[k]:=by simp [h]
theorem bH (l:List Nat):(nl l).length=l.length:=by simp [nl]
theorem LG (l:List Nat) (i:Nat):(nl l).getD i 0=((l.getD i 0:Nat):Int):=by
 unfold nl
 by_cases h:i<l.length
 ·simp [h]
 ·simp [jb (vX h)]
theorem O0 (l:List Nat) (i:Nat):nl l++[(i:Int)]=nl (l++[i]):=by simp [nl]
attribute [go_sem] bH LG O0
theorem aK (nd:List (List Nat)) (i:Nat):(nd.map nl).getD i []=nl (nd.getD i []):=by
 by_cases h:i<nd.length
 ·simp [h]
 ·simp [jb (vX h),nl]
def Tq (needs:List (List Int)) (i k:Nat):Prop:=0<=(needs.getD i []).getD k 0/\(needs.getD i []).getD k 0<needs.length/\(0<k->(needs.getD i []).getD (k - 1) 0<(needs.getD i []).getD k 0)
structure VG (needs:List (List Int)) (bad:List Bool):Prop where
 size:needs.length<=256
 bads:bad.length=needs.length
 ok:∀i,i<needs.length->∀k,k<(needs.getD i []).length->Tq needs i k
theorem VG.gr {needs:List (List Int)} {bad:List Bool} (h:VG needs bad):∃nd:List (List Nat),needs=nd.map nl/\Gr nd bad:=by
 have hn:∀l:List Int,(∀k,k<l.length->0<=l.getD k 0)->nl (l.map Int.toNat)=l:=by
  intro l hl
  unfold nl
  rw [iG]
  conv=>rhs;rw [<- List.map_id l]
  apply BJ
  intro x hx
  obtain ⟨k,hk,rfl⟩:=gQ 0 hx
  have:=hl k hk
  simp only [Function.comp,id]
  omega
 refine ⟨needs.map (·.map Int.toNat),?_,?_,?_,?_,?_⟩
 ·rw [iG]
  conv=>lhs;rw [<- List.map_id needs]
  apply BJ
  intro l hl
  obtain ⟨i,hi,rfl⟩:=gQ [] hl
  exact (hn _ fun k hk=>(h.ok i hi k hk).1).symm
 ·simpa using h.size
 ·simpa using h.bads
 ·intro i j hj
  by_cases hi:i<needs.length
  ·have e:(needs.map (·.map Int.toNat)).getD i []=(needs.getD i []).map Int.toNat:=by simp [hi]
   rw [e] at hj
   obtain ⟨x,hx,rfl⟩:=zl023.1 hj
   obtain ⟨k,hk,rfl⟩:=gQ 0 hx
   have:=(h.ok i hi k hk).2.1
   have:=(h.ok i hi k hk).1
   simp only [fK]
   omega
  ·have e:(needs.map (·.map Int.toNat)).getD i []=[]:=by simp [jb (vX hi)]
   rw [e] at hj;cases hj
 ·intro i
  by_cases hi:i<needs.length
  ·have e:(needs.map (·.map Int.toNat)).getD i []=(needs.getD i []).map Int.toNat:=by simp [hi]
   rw [e]
   have step:∀k,k+1<(needs.getD i []).length->(needs.getD i []).getD k 0<(needs.getD i []).getD (k+1) 0:=fun k hk=>by
    have:=(h.ok i hi (k+1) hk).2.2 (by omega)
    simpa using this
   have mono:∀ (d k:Nat),k+d+1<(needs.getD i []).length->(needs.getD i []).getD k 0<(needs.getD i []).getD (k+d+1) 0:=by
    intro d
    induction d with
    | zero=>intro k hk;exact step k hk
    | succ d ih =>
     intro k hk
     have a:=ih k (by omega)
     have b:=step (k+d+1) (by omega)
     have e:k+(d+1)+1=k+d+1+1:=by omega
     rw [e];omega
   rw [zl079]
   intro a b ha hb hab
   simp only [fK] at ha hb
   simp only [Gh]
   have h1:=mono (b - a - 1) a (by omega)
   have e1:a+(b - a - 1)+1=b:=by omega
   rw [e1] at h1
   have ea:(needs.getD i []).getD a 0=(needs.getD i [])[a]:=mQ ha
   have eb:(needs.getD i []).getD b 0=(needs.getD i [])[b]:=mQ hb
   rw [ea,eb] at h1
   have h0:=(h.ok i hi a ha).1
   rw [ea] at h0
   omega
  ·have e:(needs.map (·.map Int.toNat)).getD i []=[]:=by simp [jb (vX hi)]
   rw [e];exact .nil
theorem Gr.vg {nd:List (List Nat)} {bad:List Bool} (g:Gr nd bad):VG (nd.map nl) bad:=by
 refine ⟨by simpa using g.size,by simpa using g.bads,fun i hi k hk=>?_⟩
 simp only [fK] at hi
 rw [aK,bH] at hk
 simp only [Tq,aK,LG,fK]
 have h1:=g.lt i _ (getD_mem (nd.getD i []) k 0 hk)
 refine ⟨by omega,by omega,fun h0=>?_⟩
 have:=zl079.1 (g.sorted i) (k - 1) k (by omega) hk (by omega)
 have ea:(nd.getD i []).getD (k - 1) 0=(nd.getD i [])[k - 1]:=mQ (by omega)
 have eb:(nd.getD i []).getD k 0=(nd.getD i [])[k]:=mQ hk
 rw [ea,eb];omega
end Go.Proofs.Ytjlidhijnohkbaa
end
