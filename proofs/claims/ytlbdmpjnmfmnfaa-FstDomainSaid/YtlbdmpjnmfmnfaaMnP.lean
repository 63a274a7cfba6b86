set_option linter.unusedSimpArgs false
set_option linter.unusedVariables false
set_option linter.unusedSectionVars false
namespace Go.MN
section
variable {σ:Type} [DecidableEq σ]
def firsts (f:Nat->σ):Nat->List σ
 | 0=>[]
 | n+1=>if f n∈firsts f n then firsts f n else firsts f n++[f n]
theorem iK (f:Nat->σ) {n:Nat} (h:f n∈firsts f n):firsts f (n+1)=firsts f n:=by rw [firsts,if_pos h]
theorem iP (f:Nat->σ) {n:Nat} (h:f n ∉ firsts f n):firsts f (n+1)=firsts f n++[f n]:=by rw [firsts,if_neg h]
theorem je (f:Nat->σ) {x:σ}:∀ {n:Nat},x∈firsts f n <-> ∃i,i<n/\f i=x
 | 0=>by simp [firsts]
 | n+1=>by
  have ih:=je f (x:=x) (n:=n)
  by_cases h:f n∈firsts f n
  ·rw [iK f h,ih]
   constructor
   ·rintro ⟨i,hi,e⟩;exact ⟨i,by omega,e⟩
   ·rintro ⟨i,hi,e⟩
    by_cases hin:i<n
    ·exact ⟨i,hin,e⟩
    ·obtain rfl:i=n:=by omega
     rw [<- e]
     exact (je f).1 h
  ·rw [iP f h,List.mem_append,ih,List.mem_singleton]
   constructor
   ·rintro (⟨i,hi,e⟩|rfl)
    ·exact ⟨i,by omega,e⟩
    ·exact ⟨n,by omega,rfl⟩
   ·rintro ⟨i,hi,e⟩
    by_cases hin:i<n
    ·exact .inl ⟨i,hin,e⟩
    ·obtain rfl:i=n:=by omega
     exact .inr e.symm
theorem rP (f:Nat->σ):∀n,(firsts f n).Nodup
 | 0=>.nil
 | n+1=>by
  by_cases h:f n∈firsts f n
  ·rw [iK f h];exact rP f n
  ·rw [iP f h,List.nodup_append]
   refine ⟨rP f n,by simp,fun a ha b hb=>?_⟩
   rw [List.mem_singleton.1 hb]
   rintro rfl
   exact h ha
theorem xu (f:Nat->σ):∀n,(firsts f n).length<=n
 | 0=>by simp [firsts]
 | n+1=>by
  have:=xu f n
  by_cases h:f n∈firsts f n
  ·rw [iK f h];omega
  ·rw [iP f h];simp;omega
theorem H6 (f:Nat->σ):∀ {m n:Nat},m<=n->∃r,firsts f n=firsts f m++r
 | m, 0, h => ⟨[], by obtain rfl : m = 0 := by omega
                      simp⟩
 | m,n+1,h=>by
  by_cases e:m=n+1
  ·exact ⟨[],by rw [e];simp⟩
  ·obtain ⟨r,hr⟩:=H6 f (m:=m) (n:=n) (by omega)
   by_cases h:f n∈firsts f n
   ·exact ⟨r,by rw [iK f h,hr]⟩
   ·exact ⟨r++[f n],by rw [iP f h,hr];simp⟩
theorem rX {τ:Type} [DecidableEq τ] {f:Nat->σ} {g:Nat->τ} {n:Nat} (h:∀i j,i<n->j<n->(f i=f j <-> g i=g j)):∀m,m<=n->(firsts f m).length=(firsts g m).length/\∀i,i<n->∀k:Nat,(firsts f m)[k]?=some (f i) <-> (firsts g m)[k]?=some (g i)
 | 0,_=>⟨rfl,by simp [firsts]⟩
 | m+1,hm=>by
  obtain ⟨h1,h2⟩:=rX h m (by omega)
  have hin:f m∈firsts f m <-> g m∈firsts g m:=by
   rw [je,je]
   constructor
   ·rintro ⟨i,hi,e⟩;exact ⟨i,hi,(h i m (by omega) (by omega)).1 e⟩
   ·rintro ⟨i,hi,e⟩;exact ⟨i,hi,(h i m (by omega) (by omega)).2 e⟩
  by_cases hf:f m∈firsts f m
  ·rw [iK f hf,iK g (hin.1 hf)];exact ⟨h1,h2⟩
  ·have hg:g m ∉ firsts g m:=fun e=>hf (hin.2 e)
   rw [iP f hf,iP g hg]
   refine ⟨by simp [h1],fun i hi k=>?_⟩
   rcases Nat.lt_or_ge k (firsts f m).length with hk|hk
   ·rw [List.getElem?_append_left hk,List.getElem?_append_left (by omega)];exact h2 i hi k
   ·rw [List.getElem?_append_right hk,List.getElem?_append_right (by omega),<- h1]
    rcases Nat.eq_zero_or_pos (k - (firsts f m).length) with e|e
    ·rw [e]
     simp only [List.getElem?_cons_zero,Option.some.injEq]
     exact h m i (by omega) hi
    ·rw [List.getElem?_eq_none (by simp;omega),List.getElem?_eq_none (by simp;omega)]
     simp
def num (f:Nat->σ) (n i:Nat):Nat:=(firsts f n).idxOf (f i)
theorem PO (f:Nat->σ) {n i:Nat} (h:i<n):num f n i<(firsts f n).length:=List.idxOf_lt_length_of_mem ((je f).2 ⟨i,h,rfl⟩)
theorem Ah (f:Nat->σ) {n i:Nat} (h:i<n):(firsts f n)[num f n i]?=some (f i):=by
 rw [List.getElem?_eq_getElem (PO f h)]
 exact congrArg some (List.getElem_idxOf (PO f h))
theorem PU (f:Nat->σ) {n i j:Nat} (hi:i<n) (hj:j<n):num f n i=num f n j <-> f i=f j:=by
 constructor
 ·intro e
  have h1:=Ah f hi
  have h2:=Ah f hj
  rw [e,h2] at h1
  exact (Option.some.inj h1).symm
 ·intro e;unfold num;rw [e]
theorem Jr {l r:List σ} {x:σ} (h:x∈l):(l++r).idxOf x=l.idxOf x:=by rw [List.idxOf_append,if_pos h]
theorem Fz (f:Nat->σ) {m n i:Nat} (h:i<m) (hm:m<=n):num f n i=num f m i:=by
 obtain ⟨r,hr⟩:=H6 f hm
 unfold num
 rw [hr,Jr ((je f).2 ⟨i,h,rfl⟩)]
theorem MS {l:List σ} (hn:l.Nodup) {k:Nat} {x:σ} (h:l[k]?=some x):l.idxOf x=k:=by
 obtain ⟨hk,rfl⟩:=List.getElem?_eq_some_iff.1 h
 exact hn.idxOf_getElem k hk
theorem Tj {τ:Type} [DecidableEq τ] {f:Nat->σ} {g:Nat->τ} {n:Nat} (h:∀i j,i<n->j<n->(f i=f j <-> g i=g j)) {i:Nat} (hi:i<n):num f n i=num g n i:=by
 have h1:=((rX h n (Nat.le_refl _)).2 i hi _).1 (Ah f hi)
 exact (MS (rP g n) h1).symm
theorem VK (f:Nat->σ) {n:Nat} (h:0<n):num f n 0=0:=by
 rw [Fz f (m:=1) (by omega) (by omega)]
 simp [num,firsts]
end
section
def sig (nx:Nat->List Nat) (fn:Nat->Bool) (c:Nat->Nat) (i:Nat):Nat×Bool×List Nat:=(c i,fn i,(nx i).map c)
variable {nx:Nat->List Nat} {fn:Nat->Bool} {n:Nat}
def rnd (nx:Nat->List Nat) (fn:Nat->Bool) (n:Nat):Nat->Nat->Nat
 | 0=>fun _=>0
 | k+1=>num (sig nx fn (rnd nx fn n k)) n
def cnt (nx:Nat->List Nat) (fn:Nat->Bool) (n:Nat):Nat->Nat
 | 0=>0
 | k+1=>(firsts (sig nx fn (rnd nx fn n k)) n).length
theorem LY {k i j:Nat} (hi:i<n) (hj:j<n) (h:rnd nx fn n (k+1) i=rnd nx fn n (k+1) j):rnd nx fn n k i=rnd nx fn n k j/\fn i=fn j/\(nx i).map (rnd nx fn n k)=(nx j).map (rnd nx fn n k):=by
 have:=(PU (sig nx fn (rnd nx fn n k)) hi hj).1 h
 simp only [sig,Prod.mk.injEq] at this
 exact this
theorem Po {k i:Nat} (hi:i<n):rnd nx fn n (k+1) i<cnt nx fn n (k+1):=PO _ hi
theorem cnt_le (k:Nat):cnt nx fn n k<=n:=by
 cases k with
 | zero=>exact Nat.zero_le _
 | succ k=>exact xu _ _
theorem Hy {σ τ:Type} [DecidableEq σ] [DecidableEq τ] {f:Nat->σ} {g:Nat->τ}:∀ {n:Nat},(∀i j,i<n->j<n->f i=f j->g i=g j)->(firsts g n).length<=(firsts f n).length/\((firsts g n).length=(firsts f n).length->∀i j,i<n->j<n->g i=g j->f i=f j)
 | 0,_=>⟨by simp [firsts],fun _ i j hi=>by omega⟩
 | n+1,h=>by
  obtain ⟨h1,h2⟩:=Hy (n:=n) fun i j hi hj=>h i j (by omega) (by omega)
  have hfg:f n∈firsts f n->g n∈firsts g n:=fun e=>by
   obtain ⟨i,hi,e⟩:=(je f).1 e
   exact (je g).2 ⟨i,hi,h i n (by omega) (by omega) e⟩
  by_cases hf:f n∈firsts f n
  ·have hg:=hfg hf
   rw [iK f hf,iK g hg]
   refine ⟨h1,fun e i j hi hj hij=>?_⟩
   obtain ⟨m,hm,em⟩:=(je f).1 hf
   have eg:g m=g n:=h m n (by omega) (by omega) em
   have key:∀i,i<n+1->∃i',i'<n/\f i'=f i/\g i'=g i:=fun i hi=>by
    by_cases hin:i<n
    ·exact ⟨i,hin,rfl,rfl⟩
    ·obtain rfl:i=n:=by omega
     exact ⟨m,hm,em,eg⟩
   obtain ⟨i',a1,a2,a3⟩:=key i hi
   obtain ⟨j',b1,b2,b3⟩:=key j hj
   rw [<- a2,<- b2]
   exact h2 e i' j' a1 b1 (by rw [a3,b3,hij])
  ·rw [iP f hf]
   by_cases hg:g n∈firsts g n
   ·rw [iK g hg]
    refine ⟨by simp;omega,fun e=>?_⟩
    simp at e;omega
   ·rw [iP g hg]
    refine ⟨by simp;omega,fun e i j hi hj hij=>?_⟩
    have e':(firsts g n).length=(firsts f n).length:=by simpa using e
    have no:∀i,i<n->g i≠g n:=fun i hi e=>hg ((je g).2 ⟨i,hi,e⟩)
    by_cases hin:i<n<;>by_cases hjn:j<n
    ·exact h2 e' i j hin hjn hij
    ·obtain rfl:j=n:=by omega
     exact absurd hij (no i hin)
    ·obtain rfl:i=n:=by omega
     exact absurd hij.symm (no j hjn)
    ·obtain rfl:i=n:=by omega
     obtain rfl:j=i:=by omega
     rfl
theorem QS {σ:Type} [DecidableEq σ] (f:Nat->σ) (n:Nat):(firsts (num f n) n).length=(firsts f n).length :=
 (rX (f:=num f n) (g:=f) (n:=n) (fun _ _ hi hj=>PU f hi hj) n (Nat.le_refl _)).1
theorem cnt_up (k:Nat):cnt nx fn n k<=cnt nx fn n (k+1):=by
 cases k with
 | zero=>exact Nat.zero_le _
 | succ k =>
  have h:=(Hy (f:=sig nx fn (rnd nx fn n (k+1))) (g:=rnd nx fn n (k+1)) (n:=n) fun i j _ _ e=>by
   simp only [sig,Prod.mk.injEq] at e;exact e.1).1
  have e:(firsts (rnd nx fn n (k+1)) n).length=cnt nx fn n (k+1):=QS _ _
  rw [e] at h
  exact h
structure Cls (nx:Nat->List Nat) (fn:Nat->Bool) (n:Nat) (c:Nat->Nat) (m:Nat):Prop where
 at_:∃k,c=rnd nx fn n (k+1)/\m=cnt nx fn n (k+1)/\cnt nx fn n (k+1)=cnt nx fn n k/\∀j,j<k->cnt nx fn n (j+1)≠cnt nx fn n j
theorem Cls.unique {c c':Nat->Nat} {m m':Nat} (h:Cls nx fn n c m) (h':Cls nx fn n c' m'):c=c'/\m=m':=by
 obtain ⟨k,rfl,rfl,e,l⟩:=h.at_
 obtain ⟨k',rfl,rfl,e',l'⟩:=h'.at_
 rcases Nat.lt_trichotomy k k' with g|g|g
 ·exact absurd e (l' k g)
 ·rw [g];exact ⟨rfl,rfl⟩
 ·exact absurd e' (l k' g)
theorem Cls.lt {c:Nat->Nat} {m i:Nat} (h:Cls nx fn n c m) (hi:i<n):c i<m:=by
 obtain ⟨k,rfl,rfl,_,_⟩:=h.at_
 exact Po hi
theorem Cls.le {c:Nat->Nat} {m:Nat} (h:Cls nx fn n c m):m<=n:=by
 obtain ⟨k,rfl,rfl,_,_⟩:=h.at_
 exact cnt_le _
theorem Cls.fin {c:Nat->Nat} {m i j:Nat} (h:Cls nx fn n c m) (hi:i<n) (hj:j<n) (e:c i=c j):fn i=fn j:=by
 obtain ⟨k,rfl,rfl,_,_⟩:=h.at_
 exact (LY hi hj e).2.1
theorem Cls.zero {c:Nat->Nat} {m:Nat} (h:Cls nx fn n c m) (h0:0<n):c 0=0:=by
 obtain ⟨k,rfl,rfl,_,_⟩:=h.at_
 exact VK _ h0
theorem Cls.next {c:Nat->Nat} {m i j:Nat} (h:Cls nx fn n c m) (hn:∀i,i<n->∀x∈nx i,x<n) (hi:i<n) (hj:j<n) (e:c i=c j):(nx i).map c=(nx j).map c:=by
 obtain ⟨k,rfl,rfl,ek,_⟩:=h.at_
 have e2:=(LY hi hj e).2.2
 have key:∀x y,x<n->y<n->rnd nx fn n k x=rnd nx fn n k y->rnd nx fn n (k+1) x=rnd nx fn n (k+1) y:=by
  cases k with
  | zero =>
   intro x y hx hy _
   have:=Po (nx:=nx) (fn:=fn) (k:=0) hx
   rw [ek] at this
   exact absurd this (Nat.not_lt_zero _)
  | succ k =>
   intro x y hx hy hxy
   have h:=(Hy (f:=sig nx fn (rnd nx fn n (k+1))) (g:=rnd nx fn n (k+1)) (n:=n) fun i j _ _ e=>by
    simp only [sig,Prod.mk.injEq] at e;exact e.1).2
   have e1:(firsts (rnd nx fn n (k+1)) n).length=cnt nx fn n (k+1):=QS _ _
   exact (PU _ hx hy).2 (h (by rw [e1];exact ek.symm) x y hx hy hxy)
 refine List.ext_getElem? fun s=>?_
 have e3:=congrArg (fun l:List Nat=>l[s]?) e2
 simp only [List.getElem?_map] at e3 ⊢
 cases hx:(nx i)[s]? with
 | none=>rw [hx] at e3;cases hy:(nx j)[s]? with
  | none=>rfl
  | some y=>rw [hy] at e3;cases e3
 | some x=>rw [hx] at e3;cases hy:(nx j)[s]? with
  | none=>rw [hy] at e3;cases e3
  | some y =>
   rw [hy] at e3
   simp only [Option.map_some,Option.some.injEq] at e3 ⊢
   exact key x y (hn i hi x (List.mem_of_getElem? hx)) (hn j hj y (List.mem_of_getElem? hy)) e3
end
section
variable {α:Type} [DecidableEq α] [Inhabited α]
def scan (δ:α->Nat->α) (a:α) (L:List α):Nat->List α×List Nat
 | 0=>(L,[])
 | s+1=>let p:=scan δ a L s
  if δ a s∈p.1 then (p.1,p.2++[p.1.idxOf (δ a s)]) else (p.1++[δ a s],p.2++[p.1.length])
def aK (δ:α->Nat->α) (sz:Nat) (a:α):Nat->List α×List (List Nat)
 | 0=>([a],[])
 | i+1=>let p:=aK δ sz a i;let q:=scan δ (p.1.getD i default) p.1 sz
  (q.1,p.2++[q.2])
variable {δ:α->Nat->α} {a b:α} {L:List α} {sz:Nat}
theorem scan_in {s:Nat} (h:δ a s∈(scan δ a L s).1):scan δ a L (s+1)=((scan δ a L s).1,(scan δ a L s).2++[(scan δ a L s).1.idxOf (δ a s)]):=by
 simp only [scan];rw [if_pos h]
theorem oH {s:Nat} (h:δ a s ∉ (scan δ a L s).1):scan δ a L (s+1)=((scan δ a L s).1++[δ a s],(scan δ a L s).2++[(scan δ a L s).1.length]):=by
 simp only [scan];rw [if_neg h]
theorem nD (h:L.Nodup):∀s,(scan δ a L s).1.Nodup
 | 0=>h
 | s+1=>by
  by_cases e:δ a s∈(scan δ a L s).1
  ·rw [scan_in e];exact nD h s
  ·rw [oH e]
   simp only
   rw [List.nodup_append]
   refine ⟨nD h s,by simp,fun x hx y hy=>?_⟩
   rw [List.mem_singleton.1 hy]
   rintro rfl
   exact e hx
theorem kX:∀s,(scan δ a L s).2.length=s
 | 0=>rfl
 | s+1=>by
  by_cases e:δ a s∈(scan δ a L s).1
  ·rw [scan_in e];simp [kX s]
  ·rw [oH e];simp [kX s]
theorem sO:∀s,∃r,(scan δ a L s).1=L++r
 | 0=>⟨[],by simp [scan]⟩
 | s+1=>by
  obtain ⟨r,hr⟩:=sO s
  by_cases e:δ a s∈(scan δ a L s).1
  ·rw [scan_in e];exact ⟨r,hr⟩
  ·rw [oH e];exact ⟨r++[δ a s],by rw [hr];simp⟩
theorem pV {P:α->Prop} (hL:∀x∈L,P x):∀s,(∀t,t<s->P (δ a t))->∀x∈(scan δ a L s).1,P x
 | 0,_=>hL
 | s+1,h=>by
  by_cases e:δ a s∈(scan δ a L s).1
  ·rw [scan_in e];exact pV hL s fun t ht=>h t (by omega)
  ·rw [oH e]
   intro x hx
   rcases List.mem_append.1 hx with hx|hx
   ·exact pV hL s (fun t ht=>h t (by omega)) x hx
   ·rw [List.mem_singleton.1 hx];exact h s (by omega)
theorem H5:∀s t,t<s->∃k,(scan δ a L s).2[t]?=some k/\(scan δ a L s).1[k]?=some (δ a t)
 | 0,t,h=>by omega
 | s+1,t,h=>by
  have hl:=kX (δ:=δ) (a:=a) (L:=L) s
  by_cases e:δ a s∈(scan δ a L s).1
  ·rw [scan_in e]
   by_cases ht:t<s
   ·obtain ⟨k,h1,h2⟩:=H5 s t ht
    exact ⟨k,by simp only;rw [List.getElem?_append_left (by omega)];exact h1,h2⟩
   ·obtain rfl:t=s:=by omega
    refine ⟨(scan δ a L t).1.idxOf (δ a t),by simp only;rw [List.getElem?_append_right (by omega),hl];simp,?_⟩
    simp only
    rw [List.getElem?_eq_getElem (List.idxOf_lt_length_of_mem e),List.getElem_idxOf]
  ·rw [oH e]
   by_cases ht:t<s
   ·obtain ⟨k,h1,h2⟩:=H5 s t ht
    refine ⟨k,by simp only;rw [List.getElem?_append_left (by omega)];exact h1,?_⟩
    simp only
    rw [List.getElem?_append_left (List.getElem?_eq_some_iff.1 h2).1];exact h2
   ·obtain rfl:t=s:=by omega
    refine ⟨(scan δ a L t).1.length,by simp only;rw [List.getElem?_append_right (by omega),hl];simp,?_⟩
    simp
theorem nG:∀i,(aK δ sz a i).1.Nodup
 | 0=>by simp [aK]
 | i+1=>nD (nG i) sz
theorem gG:∀i,(aK δ sz a i).2.length=i
 | 0=>rfl
 | i+1=>by simp [aK,gG i]
theorem sW:∀ {i j:Nat},i<=j->∃r q,(aK δ sz a j).1=(aK δ sz a i).1++r/\(aK δ sz a j).2=(aK δ sz a i).2++q
 | i, 0, h => ⟨[], [], by obtain rfl : i = 0 := by omega
                          simp⟩
 | i,j+1,h=>by
  by_cases e:i=j+1
  ·exact ⟨[],[],by rw [e];simp⟩
  ·obtain ⟨r,q,h1,h2⟩:=sW (i:=i) (j:=j) (by omega)
   obtain ⟨r2,h3⟩:=sO (δ:=δ) (a:=(aK δ sz a j).1.getD j default) (L:=(aK δ sz a j).1) sz
   refine ⟨r++r2,q++[(scan δ ((aK δ sz a j).1.getD j default) (aK δ sz a j).1 sz).2],?_,?_⟩
   ·show (scan δ ((aK δ sz a j).1.getD j default) (aK δ sz a j).1 sz).1=_
    rw [h3,h1];simp
   ·show (aK δ sz a j).2++_=_
    rw [h2];simp
theorem DU {P:α->Prop} (h0:P a) (hs:∀x t,P x->t<sz->P (δ x t)) (hd:P default):∀i,∀x∈(aK δ sz a i).1,P x
 | 0=>by simp [aK,h0]
 | i+1=>by
  refine pV (DU h0 hs hd i) sz fun t ht=>hs _ t ?_ ht
  rw [List.getD_eq_getElem?_getD]
  cases h:(aK δ sz a i).1[i]? with
  | none=>exact hd
  | some x=>exact DU h0 hs hd i x (List.mem_of_getElem? h)
def Done (δ:α->Nat->α) (sz:Nat) (a:α) (n:Nat):Prop:=(aK δ sz a n).1.length=n/\∀j,j<n->j<(aK δ sz a j).1.length
theorem Done.unique {n m:Nat} (h:Done δ sz a n) (g:Done δ sz a m):n=m:=by
 rcases Nat.lt_trichotomy n m with e|e|e
 ·have:=g.2 n e;have:=h.1;omega
 ·exact e
 ·have:=h.2 m e;have:=g.1;omega
theorem Done.pos {n:Nat} (h:Done δ sz a n):0<n:=by
 rcases Nat.eq_zero_or_pos n with rfl|h0
 ·have:=h.1;simp [aK] at this
 ·exact h0
theorem Done.first {n:Nat} (_h:Done δ sz a n):(aK δ sz a n).1[0]?=some a:=by
 obtain ⟨r,_,h1,_⟩:=sW (δ:=δ) (sz:=sz) (a:=a) (Nat.zero_le n)
 rw [h1];simp [aK]
theorem Done.row {n i t:Nat} (h:Done δ sz a n) (hi:i<n) (ht:t<sz):∃x row k,(aK δ sz a n).1[i]?=some x/\(aK δ sz a n).2[i]?=some row/\row.length=sz/\row[t]?=some k/\(aK δ sz a n).1[k]?=some (δ x t):=by
 obtain ⟨r,q,h1,h2⟩:=sW (δ:=δ) (sz:=sz) (a:=a) (i:=i+1) (j:=n) (by omega)
 have hil:=h.2 i hi
 obtain ⟨k,g1,g2⟩:=H5 (δ:=δ) (a:=(aK δ sz a i).1.getD i default) (L:=(aK δ sz a i).1) sz t ht
 obtain ⟨r2,g3⟩:=sO (δ:=δ) (a:=(aK δ sz a i).1.getD i default) (L:=(aK δ sz a i).1) sz
 have e1:(aK δ sz a (i+1)).1=(scan δ ((aK δ sz a i).1.getD i default) (aK δ sz a i).1 sz).1:=rfl
 have e2:(aK δ sz a (i+1)).2=(aK δ sz a i).2++[(scan δ ((aK δ sz a i).1.getD i default) (aK δ sz a i).1 sz).2]:=rfl
 refine ⟨(aK δ sz a i).1.getD i default,_,k,?_,?_,kX _,g1,?_⟩
 ·rw [h1,e1,g3,List.append_assoc,List.getElem?_append_left hil,List.getD_eq_getElem?_getD,List.getElem?_eq_getElem hil];rfl
 ·rw [h2,e2,List.getElem?_append_left (by simp [gG]),List.getElem?_append_right (by simp [gG]),gG];simp
 ·rw [h1,e1,List.getElem?_append_left (List.getElem?_eq_some_iff.1 g2).1];exact g2
end
end Go.MN
