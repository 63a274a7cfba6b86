import Derived.Test.YtjlidhijnohkbaaGrPlain
set_option linter.unusedSimpArgs false
set_option linter.unusedVariables false
namespace Go.Proofs.Ytjlidhijnohkbaa
structure IsDist (nd:List (List Nat)) (bad:List Bool) (i:Nat) (out:List Int):Prop where
 len:out.length=nd.length
 low:∀v,v<nd.length -> -1<=out.getD v 0/\out.getD v 0<=nd.length
 zero:∀v,v<nd.length->(out.getD v 0=0 <-> v=i)
 par:∀v,v<nd.length->0<out.getD v 0->∃k,k<nd.length/\bad.getD k false=false/\v∈nd.getD k []/\out.getD v 0=out.getD k 0+1/\0<=out.getD k 0
 cl:∀k,k<nd.length->0<=out.getD k 0->bad.getD k false=false->∀j∈nd.getD k [],0<=out.getD j 0/\out.getD j 0<=out.getD k 0+1
structure Bf (nd:List (List Nat)) (i:Nat) (bad:List Bool) (done q:List Nat) (out:List Int) (lo:Int):Prop where
 len:out.length=nd.length
 nodup:(done++q).Nodup
 lt:∀v∈done++q,v<nd.length
 vis:∀v,v<nd.length->(0<=out.getD v 0 <-> v∈done++q) /\ -1<=out.getD v 0
 dn:∀v∈done,out.getD v 0<=lo
 qu:∀v∈q,lo<=out.getD v 0/\out.getD v 0<=lo+1
 so:q.Pairwise (fun a b=>out.getD a 0<=out.getD b 0)
 src:i∈done++q/\out.getD i 0=0
 par:∀v∈done++q,v≠i->∃k∈done,bad.getD k false=false/\v∈nd.getD k []/\out.getD v 0=out.getD k 0+1
 few:∀v∈done++q,out.getD v 0<=done.length
def Closed (nd:List (List Nat)) (bad:List Bool) (done:List Nat) (out:List Int):Prop :=
 ∀k∈done,bad.getD k false=false->∀j∈nd.getD k [],0<=out.getD j 0/\out.getD j 0<=out.getD k 0+1
section
variable {nd:List (List Nat)} {bad:List Bool} {i k m:Nat} {done q:List Nat} {out:List Int} {lo:Int}
theorem Bf.first (hi:i<nd.length):Bf nd i bad [] [i] ((List.replicate nd.length (-1)).set i 0) 0:=by
 have hg:∀v,v<nd.length->((List.replicate nd.length (-1:Int)).set i 0).getD v 0=if i=v then 0 else -1:=fun v hv=>by
  rw [gJ _ _ _ _ _ (by simpa using hi)]
  split
  ·rfl
  ·simp [hv]
 refine ⟨by simp,by simp,fun v hv=>by simp at hv;omega,fun v hv=>?_,by simp,fun v hv=>?_,by simp,⟨by simp,by rw [hg i hi,if_pos rfl]⟩,fun v hv hn=>absurd (by simpa using hv) hn,fun v hv=>?_⟩
 ·rw [hg v hv]
  by_cases h:i=v
  ·subst h;simp
  ·have:¬ v=i:=fun e=>h e.symm
   simp [h,this]
 ·simp at hv;subst hv;rw [hg _ hi,if_pos rfl];omega
 ·simp at hv;subst hv;rw [hg _ hi,if_pos rfl];simp
theorem Bf.size (s:Bf nd i bad done q out lo):done.length+q.length<=nd.length:=by
 rw [<- List.length_append];exact fA s.nodup s.lt
theorem Bf.take (s:Bf nd i bad done (k::q) out lo):Bf nd i bad (done++[k]) q out (out.getD k 0):=by
 have e:done++[k]++q=done++k::q:=by simp
 have hk:=s.qu k (by simp)
 have hp:=List.pairwise_cons.1 s.so
 refine ⟨s.len,by rw [e];exact s.nodup,by rw [e];exact s.lt,by rw [e];exact s.vis,fun v hv=>?_,fun v hv=>?_,hp.2,by rw [e];exact s.src,fun v hv hn=>?_,fun v hv=>?_⟩
 ·rcases List.mem_append.1 hv with h|h
  ·have:=s.dn v h;omega
  ·simp at h;subst h;exact Int.le_refl _
 ·have h1:=hp.1 v hv
  have h2:=s.qu v (by simp [hv])
  omega
 ·rw [e] at hv
  obtain ⟨p,hp,h⟩:=s.par v hv hn
  exact ⟨p,by simp [hp],h⟩
 ·rw [e] at hv
  have:=s.few v hv
  simp only [List.length_append,List.length_cons,List.length_nil]
  omega
theorem Bf.find (s:Bf nd i bad (done++[k]) q out lo) (hlo:lo=out.getD k 0) (hkf:out.getD k 0<=done.length) (hb:bad.getD k false=false) {j:Nat} (hj:j<nd.length) (hjk:j∈nd.getD k []) (hn:out.getD j 0<0):Bf nd i bad (done++[k]) (q++[j]) (out.set j (out.getD k 0+1)) lo:=by
 have hjo:j<out.length:=by rw [s.len];exact hj
 have hjn:j ∉ (done++[k])++q:=fun h=>by have:=(s.vis j hj).1.2 h;omega
 have hkm:k∈(done++[k])++q:=by simp
 have hk0:0<=out.getD k 0:=(s.vis k (s.lt k hkm)).1.2 hkm
 have hg:∀v,(out.set j (out.getD k 0+1)).getD v 0=if j=v then out.getD k 0+1 else out.getD v 0:=fun v=>gJ _ _ _ _ _ hjo
 have old:∀v∈(done++[k])++q,(out.set j (out.getD k 0+1)).getD v 0=out.getD v 0:=fun v hv=>by
  rw [hg,if_neg (fun e=>hjn (by rw [e];exact hv))]
 have e:done++[k]++(q++[j])=(done++[k]++q)++[j]:=by simp
 have mem:∀v,v∈done++[k]++(q++[j])->v∈done++[k]++q\/v=j:=fun v hv=>by
  rw [e] at hv
  rcases List.mem_append.1 hv with h|h
  ·exact .inl h
  ·exact .inr (by simpa using h)
 refine ⟨by simpa using s.len,?_,?_,?_,?_,?_,?_,?_,?_,?_⟩
 ·rw [e,List.nodup_append]
  exact ⟨s.nodup,by simp,fun a ha b hb=>by simp at hb;subst hb;exact fun h=>hjn (h▸ha)⟩
 ·intro v hv
  rcases mem v hv with h|rfl
  ·exact s.lt v h
  ·exact hj
 ·intro v hv
  rw [hg,e]
  by_cases h:j=v
  ·subst h;rw [if_pos rfl];simp only [List.mem_append,List.mem_singleton,or_true,iff_true];omega
  ·rw [if_neg h]
   have h':¬ v=j:=fun e=>h e.symm
   have:=s.vis v hv
   rw [List.mem_append (s:=done++[k]++q),List.mem_singleton]
   simp only [h',or_false]
   exact this
 ·intro v hv
  rw [old v (by simp only [List.mem_append] at hv ⊢;exact .inl hv)]
  exact s.dn v hv
 ·intro v hv
  rcases List.mem_append.1 hv with h|h
  ·rw [old v (by simp [h])];exact s.qu v h
  ·simp at h;subst h;rw [hg,if_pos rfl];omega
 ·rw [List.pairwise_append]
  refine ⟨?_,by simp,fun a ha b hb=>?_⟩
  ·refine s.so.imp_of_mem fun {a b} ha hb h=>?_
   rw [old a (by simp [ha]),old b (by simp [hb])];exact h
  ·simp at hb;subst hb
   rw [old a (by simp [ha]),hg,if_pos rfl]
   have:=(s.qu a ha).2
   omega
 ·refine ⟨by rw [e];exact List.mem_append.2 (.inl s.src.1),by rw [old i s.src.1];exact s.src.2⟩
 ·intro v hv hvi
  rcases mem v hv with h|rfl
  ·obtain ⟨p,hp,h1,h2,h3⟩:=s.par v h hvi
   exact ⟨p,hp,h1,h2,by rw [old v h,old p (List.mem_append.2 (.inl hp))];exact h3⟩
  ·exact ⟨k,by simp,hb,hjk,by rw [hg,if_pos rfl,old k hkm]⟩
 ·intro v hv
  rcases mem v hv with h|rfl
  ·rw [old v h];exact s.few v h
  ·rw [hg,if_pos rfl]
   simp only [List.length_append,List.length_cons,List.length_nil];omega
theorem Bf.seen (s:Bf nd i bad (done++[k]) q out lo) {j:Nat} (hj:j<nd.length) (hn:0<=out.getD j 0):out.getD j 0<=lo+1:=by
 rcases List.mem_append.1 ((s.vis j hj).1.1 hn) with h|h
 ·have:=s.dn j h;omega
 ·exact (s.qu j h).2
theorem Closed.set {D:List Nat} (h:Closed nd bad D out) {j:Nat} {x:Int} (hjl:j<out.length) (hn:out.getD j 0<0) (hD:∀p∈D,0<=out.getD p 0):Closed nd bad D (out.set j x):=by
 intro p hp hb v hv
 have h1:=h p hp hb v hv
 have h2:=hD p hp
 rw [gJ _ _ _ _ _ hjl,gJ _ _ _ _ _ hjl,if_neg (fun e=>by subst e;omega),if_neg (fun e=>by subst e;omega)]
 exact h1
theorem Bf.dist (g:Gr nd bad) (hi:i<nd.length) (s:Bf nd i bad done [] out lo) (hc:Closed nd bad done out):IsDist nd bad i out:=by
 have hs:=s.size
 simp only [List.length_nil,Nat.add_zero] at hs
 have hv:=s.vis
 simp only [List.append_nil] at hv
 refine ⟨s.len,fun v hvn=>⟨(hv v hvn).2,?_⟩,fun v hvn=>⟨fun h=>?_,fun h=>by subst h;exact s.src.2⟩,fun v hvn h=>?_,fun k hk h0 hb j hj=>hc k ((hv k hk).1.1 h0) hb j hj⟩
 ·by_cases hd:v∈done
  ·have:=s.few v (by simp [hd]);omega
  ·have:¬ 0<=out.getD v 0:=fun h=>hd ((hv v hvn).1.1 h)
   omega
 ·apply Classical.byContradiction
  intro hn
  have hd:=(hv v hvn).1.1 (by omega)
  obtain ⟨p,hp,h1,h2,h3⟩:=s.par v (by simp [hd]) hn
  have:=(hv p (s.lt p (by simp [hp]))).1.2 hp
  omega
 ·have hd:=(hv v hvn).1.1 (by omega)
  have hvi:v≠i:=fun e=>by have:=s.src.2;rw [e] at h;omega
  obtain ⟨p,hp,h1,h2,h3⟩:=s.par v (by simp [hd]) hvi
  exact ⟨p,s.lt p (by simp [hp]),h1,h2,h3,(hv p (s.lt p (by simp [hp]))).1.2 hp⟩
end
end Go.Proofs.Ytjlidhijnohkbaa
