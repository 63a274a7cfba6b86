import Derived.Test.YtlbdmpjnmfmnfaaFsW
import Derived.Test.YtlbdmpjnmfmnfaaFsU
import Derived.Test.YtlbdmpjnmfmnfaaFsB
set_option linter.unusedSimpArgs false
set_option linter.unusedVariables false
set_option maxHeartbeats 8000000
section
namespace Go.Proofs.Ytlbdmpjnmfmnfaa
open Go.RowKit Go.HL Go.FS
section
variable {fin:List Bool} {al:List A} {w:List Int} {G:List Nd}
structure LN (fin:List Bool) (al:List A) (w:List Int) (S:List Nd) (i:Nat) (ks:List Int) (V:Int->List Nd):Prop where
 nd:ks.Nodup
 vnd:∀s,(V s).Nodup
 out:∀s,V s≠[] <-> s∈ks
 sub:∀s,∀y∈V s,s ≠ -1/\By fin al w (·∈S) s y
 cl:∀j,j<i->∀s y,s ≠ -1->Mv al w (S.getD j default) s y->FS.Good fin al w y->y∈V s
structure LJ (fin:List Bool) (al:List A) (w:List Int) (G S:List Nd) (i:Nat) (v:Nd) (R:List A) (k:Nat) (ks:List Int) (V:Int->List Nd):Prop where
 ln:LN fin al w S i ks V
 row:∀a∈R.take k,a.o ≠ -1->∀y,ja w G a v.2=(y,true)->y∈V a.o
def Wi (V:Int->List Nd) (s:Int) (y:Nd):Int->List Nd:=fun t=>if t=s then ins y (V s) else V t
theorem aby (V:Int->List Nd) (s:Int) (y:Nd):Wi V s y s=ins y (V s):=by simp [Wi]
theorem abW {V:Int->List Nd} {s t:Int} {y:Nd} (h:t≠s):Wi V s y t=V t:=by simp [Wi,h]
theorem mem_upV {V:Int->List Nd} {s t:Int} {y z:Nd}:z∈Wi V s y t <-> (t=s/\z=y)\/z∈V t:=by
 unfold Wi
 split
 ·rename_i h;subst h;simp [mem_ins]
 ·rename_i h;simp [h]
theorem LN.start {S:List Nd}:LN fin al w S 0 [] (fun _=>[]) :=
 ⟨by simp,fun _=>by simp,fun s=>by simp,fun s y h=>by simp at h,fun j hj=>by omega⟩
theorem LN.begin {S:List Nd} {i:Nat} {v:Nd} {R:List A} {ks:List Int} {V:Int->List Nd} (h:LN fin al w S i ks V):LJ fin al w G S i v R 0 ks V:=⟨h,by simp⟩
theorem LJ.skip {S:List Nd} {i k:Nat} {v:Nd} {R:List A} {ks:List Int} {V:Int->List Nd} (h:LJ fin al w G S i v R k ks V) (hk:k<R.length) (hs:(R.getD k default).o ≠ -1->∀y,ja w G (R.getD k default) v.2=(y,true)->False):LJ fin al w G S i v R (k+1) ks V:=by
 refine ⟨h.ln,fun a ha ho y hy=>?_⟩
 rw [bK hk] at ha
 rcases zl003.1 ha with ha|ha
 ·exact h.row a ha ho y hy
 ·simp only [zl009] at ha;subst ha;exact (hs ho y hy).elim
theorem LJ.add (hG:∀x,x∈G <-> FS.Good fin al w x) {S:List Nd} {i k:Nat} {v:Nd} {R:List A} {ks:List Int} {V:Int->List Nd} (hR:R=al.filter fun a=>a.f==v.1) (h0:0<=v.2) (hv:v∈S) (h:LJ fin al w G S i v R k ks V) (hk:k<R.length) {y:Nd} (ho:(R.getD k default).o ≠ -1) (hy:ja w G (R.getD k default) v.2=(y,true)):LJ fin al w G S i v R (k+1) (ins (R.getD k default).o ks) (Wi V (R.getD k default).o y):=by
 have hmem:R.getD k default∈al/\(R.getD k default).f=v.1:=by
  have:=fJ hk
  generalize R.getD k default=a at this
  rw [hR] at this
  simpa using this
 have hm:=(zo hG (x:=v) (y:=y) (o:=(R.getD k default).o) h0).2 ⟨_,hmem.1,hmem.2,rfl,hy⟩
 refine ⟨⟨HL.ins_nodup h.ln.nd,fun s=>?_,fun s=>?_,fun s z hz=>?_,fun j hj s z hs hm hg=>mem_upV.2 (.inr (h.ln.cl j hj s z hs hm hg))⟩,fun a ha hoa z hz=>?_⟩
 ·unfold Wi;split
  ·exact HL.ins_nodup (h.ln.vnd _)
  ·exact h.ln.vnd s
 ·rw [mem_ins,<- h.ln.out]
  by_cases e:s=(R.getD k default).o
  ·subst e
   rw [aby]
   refine ⟨fun _=>.inl rfl,fun _ hn=>?_⟩
   have:y∈ins y (V (R.getD k default).o):=mem_ins.2 (.inl rfl)
   rw [hn] at this;cases this
  ·rw [abW e];exact ⟨.inr,fun h=>h.resolve_left e⟩
 ·rcases mem_upV.1 hz with ⟨rfl,rfl⟩|hz
  ·exact ⟨ho,v,hv,hm.1,hm.2⟩
  ·exact h.ln.sub s z hz
 ·rw [bK hk] at ha
  rcases zl003.1 ha with ha|ha
  ·exact mem_upV.2 (.inr (h.row a ha hoa z hz))
  ·simp only [zl009] at ha
   subst ha
   rw [hy] at hz
   simp only [jR,and_true] at hz
   exact mem_upV.2 (.inl ⟨rfl,hz.symm⟩)
theorem LJ.done (hG:∀x,x∈G <-> FS.Good fin al w x) {S:List Nd} {i:Nat} {R:List A} {ks:List Int} {V:Int->List Nd} (hR:R=al.filter fun a=>a.f==(S.getD i default).1) (h0:0<=(S.getD i default).2) (h:LJ fin al w G S i (S.getD i default) R R.length ks V):LN fin al w S (i+1) ks V:=by
 refine ⟨h.ln.nd,h.ln.vnd,h.ln.out,h.ln.sub,fun j hj s y hs hm hg=>?_⟩
 by_cases e:j=i
 ·subst e
  obtain ⟨a,ha,hf,ho,hy⟩:=(zo hG (y:=y) (o:=s) h0).1 ⟨hm,hg⟩
  subst ho
  refine h.row a ?_ hs y hy
  rw [fK,hR]
  simp [ha,hf]
 ·exact h.ln.cl j (by omega) s y hs hm hg
theorem LN.done {S:List Nd} {i:Nat} {ks:List Int} {V:Int->List Nd} (h:LN fin al w S i ks V) (hi:S.length<=i) {s:Int} {y:Nd}:y∈V s <-> s ≠ -1/\By fin al w (·∈S) s y:=by
 refine ⟨h.sub s y,fun ⟨hs,x,hx,hm,hg⟩=>?_⟩
 obtain ⟨j,hj,he⟩:=BZ hx
 refine h.cl j (by omega) s y hs ?_ hg
 rw [bH,bM hj];simpa [he] using hm
theorem LN.key (hk:Eb al) {S:List Nd} {i:Nat} {ks:List Int} {V:Int->List Nd} (h:LN fin al w S i ks V) {s:Int} (hs:s∈ks):0<=s/\s<64:=by
 obtain ⟨y,hy⟩:=PV _ ((h.out s).2 hs)
 obtain ⟨h1,x,_,hm,_⟩:=h.sub s y hy
 obtain ⟨a,ha,rfl⟩:=WO hm
 have:=hk a ha
 omega
theorem LN.keys (hk:Eb al) {S:List Nd} {i:Nat} {ks:List Int} {V:Int->List Nd} (h:LN fin al w S i ks V):ks.length<=64:=by
 have:=dW h.nd (m:=(List.range 64).map fun i:Nat=>(i:Int)) fun s hs=>by
  have:=h.key hk hs
  exact zl031.2 ⟨s.toNat,by simp;omega,by omega⟩
 simpa using this
theorem LN.card (hG:∀x,x∈G <-> FS.Good fin al w x) {S:List Nd} {i:Nat} {ks:List Int} {V:Int->List Nd} (h:LN fin al w S i ks V) (s:Int):(V s).length<=G.length :=
 dW (h.vnd s) fun x hx=>by obtain ⟨_,_,_,_,hg⟩:=h.sub s x hx;exact (hG x).2 hg
open Classical in
noncomputable def Ko (fin:List Bool) (al:List A) (w:List Int) (u:List Int) (k:Nat):List (List Int):=((List.range k).map fun s:Nat=>u++[(s:Int)]).filter fun v=>decide (Beg fin al w v)
theorem Zb (u:List Int):Ko fin al w u 64=ext fin al w u:=rfl
open Classical in
theorem JI (u:List Int) (k:Nat):Ko fin al w u (k+1)=if Beg fin al w (u++[(k:Int)]) then Ko fin al w u k++[u++[(k:Int)]] else Ko fin al w u k:=by
 unfold Ko
 rw [Jb,qj,Ey]
 by_cases h:Beg fin al w (u++[(k:Int)])<;>simp [h]
structure Row (fin:List Bool) (al:List A) (w:List Int) (m:Nat) (q:List Int×List Nd):Prop where
 at_:∀x,x∈q.2 <-> At fin al w q.1 x
 len:q.2.length<=2*m
theorem Wx {u:List Int} {S:List Nd} (hS:∀x,x∈S <-> At fin al w u x) {i:Nat} {ks:List Int} {V:Int->List Nd} (h:LN fin al w S i ks V) (hi:S.length<=i) {s:Int} (hs:s ≠ -1) (T:List Nd) (hT:∀x,x∈T <-> x∈V s) (y:Nd):Cl fin al w (·∈T) y <-> At fin al w (u++[s]) y:=by
 rw [ul hs]
 have e:(fun x=>x∈T)=By fin al w (At fin al w u) s:=by
  funext x
  have e2:(fun x=>x∈S)=At fin al w u:=funext fun x=>propext (hS x)
  rw [<- e2]
  exact propext ((hT x).trans ((h.done hi).trans ⟨fun h=>h.2,fun h=>⟨hs,h⟩⟩))
 rw [e]
theorem acP {u:List Int} {S:List Nd} (hS:∀x,x∈S <-> At fin al w u x) {i:Nat} {ks:List Int} {V:Int->List Nd} (h:LN fin al w S i ks V) (hi:S.length<=i) {s:Int} (hs:s ≠ -1):Beg fin al w (u++[s]) <-> V s≠[]:=by
 constructor
 ·rintro ⟨y,hy⟩ hn
  rw [<- Wx hS h hi hs (V s) (fun _=>Iff.rfl)] at hy
  rw [hn] at hy
  clear hn
  induction hy with
  | on h=>cases h
  | eps _ _ _ ih=>exact ih
 ·intro hn
  obtain ⟨y,hy⟩:=PV _ hn
  exact ⟨y,(Wx hS h hi hs (V s) (fun _=>Iff.rfl) y).1 (.on hy)⟩
end
section
variable {fin:List Bool} {al:List A} {w:List Int} {G:List Nd}
structure BI (fin:List Bool) (al:List A) (w:List Int) (S:List Nd) (s:Int) (i:Nat) (T:List Nd):Prop where
 sub:∀y∈T,By fin al w (·∈S) s y
 cl:∀j,j<i->∀y,Mv al w (S.getD j default) s y->FS.Good fin al w y->y∈T
structure BJ (fin:List Bool) (al:List A) (w:List Int) (G S:List Nd) (s:Int) (i:Nat) (v:Nd) (R:List A) (k:Nat) (T:List Nd):Prop where
 bi:BI fin al w S s i T
 row:∀a∈R.take k,a.o=s->∀y,ja w G a v.2=(y,true)->y∈T
theorem BI.start {S:List Nd} {s:Int}:BI fin al w S s 0 []:=⟨by simp,fun j hj=>by omega⟩
theorem BI.begin {S:List Nd} {s:Int} {i:Nat} {v:Nd} {R:List A} {T:List Nd} (h:BI fin al w S s i T):BJ fin al w G S s i v R 0 T:=⟨h,by simp⟩
theorem BJ.skip {S:List Nd} {s:Int} {i k:Nat} {v:Nd} {R:List A} {T:List Nd} (h:BJ fin al w G S s i v R k T) (hk:k<R.length) (hs:(R.getD k default).o=s->∀y,ja w G (R.getD k default) v.2=(y,true)->False):BJ fin al w G S s i v R (k+1) T:=by
 refine ⟨h.bi,fun a ha ho y hy=>?_⟩
 rw [bK hk] at ha
 rcases zl003.1 ha with ha|ha
 ·exact h.row a ha ho y hy
 ·simp only [zl009] at ha;subst ha;exact (hs ho y hy).elim
theorem BJ.add (hG:∀x,x∈G <-> FS.Good fin al w x) {S:List Nd} {s:Int} {i k:Nat} {v:Nd} {R:List A} {T:List Nd} (hR:R=al.filter fun a=>a.f==v.1) (h0:0<=v.2) (hv:v∈S) (h:BJ fin al w G S s i v R k T) (hk:k<R.length) {y:Nd} (ho:(R.getD k default).o=s) (hy:ja w G (R.getD k default) v.2=(y,true)):BJ fin al w G S s i v R (k+1) (T++[y]):=by
 have hmem:R.getD k default∈al/\(R.getD k default).f=v.1:=by
  have:=fJ hk
  generalize R.getD k default=a at this
  rw [hR] at this
  simpa using this
 have hm:=(zo hG (x:=v) (y:=y) (o:=s) h0).2 ⟨_,hmem.1,hmem.2,ho,hy⟩
 refine ⟨⟨fun z hz=>?_,fun j hj z hz hg=>by simp [h.bi.cl j hj z hz hg]⟩,fun a ha hoa z hz=>?_⟩
 ·rcases zl003.1 hz with hz|hz
  ·exact h.bi.sub z hz
  ·simp only [zl009] at hz;subst hz;exact ⟨v,hv,hm.1,hm.2⟩
 ·rw [bK hk] at ha
  rcases zl003.1 ha with ha|ha
  ·simp [h.row a ha hoa z hz]
  ·simp only [zl009] at ha
   subst ha
   rw [hy] at hz
   simp only [jR,and_true] at hz
   simp [hz]
theorem BJ.done (hG:∀x,x∈G <-> FS.Good fin al w x) {S:List Nd} {s:Int} {i:Nat} {v:Nd} {R:List A} {T:List Nd} (hat:S.getD i default=v) (hR:R=al.filter fun a=>a.f==v.1) (h0:0<=v.2) (h:BJ fin al w G S s i v R R.length T):BI fin al w S s (i+1) T:=by
 refine ⟨h.bi.sub,fun j hj y hm hg=>?_⟩
 by_cases e:j=i
 ·subst e
  rw [hat] at hm
  obtain ⟨a,ha,hf,ho,hy⟩:=(zo hG (x:=v) (y:=y) (o:=s) h0).1 ⟨hm,hg⟩
  refine h.row a ?_ ho y hy
  rw [fK,hR]
  simp [ha,hf]
 ·exact h.bi.cl j (by omega) y hm hg
theorem BI.done {S:List Nd} {s:Int} {i:Nat} {T:List Nd} (h:BI fin al w S s i T) (hi:S.length<=i) (y:Nd):y∈T <-> By fin al w (·∈S) s y:=by
 refine ⟨h.sub y,fun ⟨x,hx,hm,hg⟩=>?_⟩
 obtain ⟨j,hj,he⟩:=BZ hx
 refine h.cl j (by omega) y ?_ hg
 rw [bH,bM hj];simpa [he] using hm
end
theorem WP (fin:List Bool) (al:List A) (w:List Int) (G S:List Nd) (gb:List Bool) (s:Int) (hs0:0<=s) (hv:okF fin al=true) (hw:w.length<=1024) (hG:∀x,x∈G <-> FS.Good fin al w x) (hb:GB fin.length w G gb) (hS:∀x∈S,FS.Good fin al w x) (hSl:S.length<=4198400) :
  HT Try.prog 61 [.agg (Ip w (aG (·.f) fin.length al) gb),.sl S.length (vZ w S),.int .i64 s] (fun r=>∃L,r=.osl 1 L.length (vZ w L)/\(∀x,x∈L <-> Cl fin al w (By fin al w (·∈S) s) x)/\L.Nodup):=by
 obtain ⟨h1,h2,h3⟩:=bY hv
 have hin:∀a∈al,0<=a.f/\a.f<fin.length:=fun a ha=>by have:=cu hv ha;omega
 have hgb:=qm (n:=fin.length) (w:=w) h2 hw
 have hfl:=dD (·.f) fin.length al
 have hrf:∀i:Nat,i<fin.length->(aG (·.f) fin.length al).getD i []=al.filter fun a=>a.f==(i:Int):=fun i hi=>kV _ _ hi
 have hwide:=fun T=>NT fin al w G T gb hv hw hG hb
 generalize hLF:aG (·.f) fin.length al=LF at hfl hrf hwide
 obtain ⟨N,hN⟩:∃N,fin.length*(w.length+1)=N:=⟨_,rfl⟩
 have hgl:=hb.len
 rw [hN] at hgl hgb
 have hSi:∀x∈S,Ah fin.length w x:=fun x hx=>kX hin (hS x hx)
 refine HT.of rfl agm (aZ rfl) ?_
 unfold c61
 simp only [aA,Nat.reduceAdd,Ip,hgl] at hwide ⊢
 refine zF ⟨?_⟩
 refine aI [1,2,3,7,8,9] (fun t:Nat×List Nd=>t.1<=S.length/\BI fin al w S s t.1 t.2/\t.2.length<=t.1*al.length)
  (fun t=>⟨[(1,.sl S.length (vZ w S)),(2,.int .i64 s),(3,.pref 0 [] 0),(7,.int .i64 ((w.length:Int)+1)),(8,.ref 1 [] 1 0 t.2.length),(9,.int .i64 t.1)],[(0,.optr [.sl w.length (HL.ints w),.sl LF.length (bF LF),.sl N (HL.bools gb)]),(1,.osl 1 t.2.length (vZ w t.2))],2⟩)
  (fun t=>S.length - t.1) (0,[]) ⟨by simp,.start,by simp⟩ rfl ?_
 rintro ⟨i,T⟩ ⟨hi0,hbi,hTl⟩
 simp only at hi0 hbi hTl ⊢
 have hib:i*al.length<=34393292800:=jc (tK (show i<=4198400 by omega) h3) (by decide)
 by_cases hi:i<S.length
 ·have hvm:S.getD i default∈S:=by rw [bH,bM hi];exact gy _
  have hvi:=hSi _ hvm
  have hdiv:=DN hvi
  have hmod:=DK hvi
  have hrow:=hrf (S.getD i default).1.toNat (by have:=hvi.2.1;have:=hvi.1;omega)
  rw [show (((S.getD i default).1.toNat:Nat):Int)=(S.getD i default).1 by have:=hvi.1;omega] at hrow
  generalize hve:S.getD i default=v at hrow hvi hdiv hmod hvm
  have hbj:=hbi.begin (G:=G) (v:=v) (R:=LF.getD v.1.toNat [])
  generalize hR:LF.getD v.1.toNat []=R at hrow hbj
  have hrl:R.length<=al.length:=by rw [hrow];exact List.length_filter_le _ _
  have hcv:=uQ hvi
  rw [hN] at hcv
  obtain ⟨g1,g2,g3,g4⟩:=hvi
  refine zF ⟨?_⟩
  refine bG ah ah (fun _ _ _=>False) ?_
  refine eH (zA @hve (zA @hdiv @hR)) ⟨?_⟩
  refine aI [1,2,3,7,8,9,10,11] (fun t:Nat×List Nd=>t.1<=R.length/\BJ fin al w G S s i v R t.1 t.2/\t.2.length<=i*al.length+t.1)
   (fun t=>⟨[(1,.sl S.length (vZ w S)),(2,.int .i64 s),(3,.pref 0 [] 0),(7,.int .i64 ((w.length:Int)+1)),(8,.ref 1 [] 1 0 t.2.length),(9,.int .i64 i),(10,.sl R.length (recs aC R)),(11,.int .i64 t.1)],[(0,.optr [.sl w.length (HL.ints w),.sl LF.length (bF LF),.sl N (HL.bools gb)]),(1,.osl 1 t.2.length (vZ w t.2))],2⟩)
   (fun t=>R.length - t.1) (0,T) ⟨by simp,hbj,by simp;omega⟩ rfl ?_
  rintro ⟨k,T⟩ ⟨hkk,hbj,hTl⟩
  simp only at hkk hbj hTl ⊢
  by_cases hkl:k<R.length
  ·have ham:R.getD k default∈al:=by
    have:=fJ hkl
    rw [hrow] at this ⊢
    exact (zl042.1 this).1
   have ha:=cu hv ham
   have hnx:=Ot fin.length w LF G gb (R.getD k default) v.2 g3 hw g4 h2 ⟨ha.2.2.1,ha.2.2.2.1⟩ hb
   have hsk:=hbj.skip hkl
   have had:=fun y=>hbj.add hG hrow g3 hvm hkl (y:=y)
   obtain ⟨y,b,hy⟩:∃y b,ja w G (R.getD k default) v.2=(y,b):=⟨_,_,rfl⟩
   have hnr:vS w G (R.getD k default) v.2=if b then cd w.length y else -1:=by simp only [vS,hy]
   rw [hy] at hsk had
   rw [hnr] at hnx
   simp only [Ip,aC,hgl] at hnx
   cases b with
   | false =>
    simp only [Bool.false_eq_true,if_false] at hnx
    refine zF ⟨?_⟩
    refine bG ah ah (fun _ _ r=>r=.int .i64 (-1)) ?_
    refine eH (zA @hve @hmod) ⟨?_⟩
    refine bI ay aK hnx ⟨_,rfl,rfl⟩ ?_
    rintro _ rfl -
    refine zG ⟨?_⟩
    refine zF ⟨?_⟩
    exact aP [1,2,3,7,8,9,10,11] (k+1,T) ⟨hkl,hsk (fun _ _ h=>by simp at h),by simp only;omega⟩ dL rfl
   | true =>
    simp only [if_true] at hnx
    have hyi:=kX hin ((hG y).1 (JJ hy))
    have hyc:=uQ hyi
    rw [hN] at hyc
    by_cases ho:(R.getD k default).o=s
    ·have hll:(T++[y]).length=T.length+1:=by simp
     refine zF ⟨?_⟩
     refine bG ah ah (fun _ _ r=>r=.int .i64 (cd w.length y)) ?_
     refine eH (zA @hve @hmod) ⟨?_⟩
     refine bI ay aK hnx ⟨_,rfl,rfl⟩ ?_
     rintro _ rfl -
     refine zG ⟨?_⟩
     refine zF ⟨?_⟩
     exact aP [1,2,3,7,8,9,10,11] (k+1,T++[y]) ⟨hkl,had y ho rfl,by simp only [hll];omega⟩ dL (by simp only [hll,<- vX];rfl)
    ·
     refine zF ⟨?_⟩
     refine bG ah ah (fun _ _ r=>r=.int .i64 (cd w.length y)) ?_
     refine eH (zA @hve @hmod) ⟨?_⟩
     refine bI ay aK hnx ⟨_,rfl,rfl⟩ ?_
     rintro _ rfl -
     refine zG ⟨?_⟩
     refine zF ⟨?_⟩
     exact aP [1,2,3,7,8,9,10,11] (k+1,T) ⟨hkl,hsk (fun h=>absurd h ho),by simp only;omega⟩ dL rfl
  ·obtain rfl:k=R.length:=by omega
   have hd:=hbj.done hG hve hrow g3
   refine zF ⟨?_⟩
   exact aP [1,2,3,7,8,9] (i+1,T) ⟨hi,hd,by simp only [lg,BV];omega⟩ dL rfl
 ·obtain rfl:i=S.length:=by omega
  have hd:=hbi.done (bg _)
  have hTg:∀x∈T,FS.Good fin al w x:=fun x hx=>by obtain ⟨_,_,_,hg⟩:=(hd x).1 hx;exact hg
  have he:(fun x=>x∈T)=By fin al w (·∈S) s:=funext fun x=>propext (hd x)
  have hwd:=hwide T hTg (by omega)
  rw [he] at hwd
  refine zF ⟨?_⟩
  refine aF ay (zW (zA @RD @Ei)) (hwd) ?_
  rintro _ ⟨L,rfl,hL,hLn⟩
  refine ⟨(by simp only [aJ,G7,HV.refFree,dm,HV.noRd,HL.ints_noRd,HL.bools_noRd,dR,mZ,lX,l9,kE,Bool.and_true,jf,Bool.and_self,mQ,beq_self_eq_true,List.cons_append,List.nil_append]),_,_,_,_,_,zT,(by decide),lH,?_⟩
  refine zF ⟨?_⟩
  refine ae ?_
  exact ⟨L,rfl,hL,hLn⟩
end Go.Proofs.Ytlbdmpjnmfmnfaa
end
