import Derived.Test.YtjlidhijnohkbaaHb
set_option linter.unusedSimpArgs false
set_option linter.unusedVariables false
namespace Go.Proofs.Ytjlidhijnohkbaa
theorem gJ {α:Type} (l:List α) (i j:Nat) (x d:α) (h:i<l.length):(l.set i x).getD j d=if i=j then x else l.getD j d:=by
 simp only [List.getD,List.getElem?_set]
 by_cases hij:i=j
 ·subst hij;simp [h]
 ·simp [hij]
theorem aT {α:Type} (l:List α) (k:Nat) (d:α) (h:k<l.length):l.take (k+1)=l.take k++[l.getD k d]:=by
 rw [List.take_succ_eq_append_getElem h];simp [h]
theorem getD_mem {α:Type} (l:List α) (k:Nat) (d:α) (h:k<l.length):l.getD k d∈l:=by simp [h]
theorem gQ {α:Type} {l:List α} {x:α} (d:α) (h:x∈l):∃k,k<l.length/\l.getD k d=x:=by
 obtain ⟨k,hk,rfl⟩:=List.mem_iff_getElem.1 h
 exact ⟨k,hk,by simp [hk]⟩
structure Gr (nd:List (List Nat)) (bad:List Bool):Prop where
 size:nd.length<=256
 bads:bad.length=nd.length
 lt:∀i j,j∈nd.getD i []->j<nd.length
 sorted:∀i,(nd.getD i []).Pairwise (·<·)
theorem Gr.nodup {nd:List (List Nat)} {bad:List Bool} (g:Gr nd bad) (i:Nat):(nd.getD i []).Nodup:=(g.sorted i).imp fun h=>by omega
theorem Gr.len {nd:List (List Nat)} {bad:List Bool} (g:Gr nd bad) (i:Nat):(nd.getD i []).length<=nd.length:=by
 have h:∀ (l:List Nat) (b n:Nat),l.Pairwise (·<·)->(∀x∈l,b<=x/\x<n)->l.length<=n - b:=by
  intro l
  induction l with
  | nil=>intro b n _ _;simp
  | cons a l ih =>
   intro b n hp hl
   obtain ⟨h1,h2⟩:=List.pairwise_cons.1 hp
   have ha:=hl a (by simp)
   have:=ih (a+1) n h2 fun x hx=>⟨h1 x hx,(hl x (by simp [hx])).2⟩
   simp only [List.length_cons];omega
 exact h _ 0 _ (g.sorted i) fun x hx=>⟨by omega,g.lt i x hx⟩
def cnt (nd:List (List Nat)) (D:List Nat) (u:Nat):Nat:=((nd.getD u []).filter fun j=>decide (j ∉ D)).length
theorem Ce {l:List Nat} (h:l.Nodup) (i:Nat):(l.filter fun j=>decide (j≠i)).length+(if i∈l then 1 else 0)=l.length:=by
 induction l with
 | nil=>simp
 | cons a l ih =>
  obtain ⟨h1,h2⟩:=List.nodup_cons.1 h
  have:=ih h2
  by_cases ha:a=i
  ·subst ha
   rw [if_neg h1] at this
   simp at this ⊢
   omega
  ·have hia:¬ i=a:=fun e=>ha e.symm
   simp only [List.filter_cons,decide_eq_true_eq,ha,ne_eq,not_false_eq_true,if_true,List.length_cons,List.mem_cons,hia,false_or]
   simp only [ne_eq] at this
   omega
theorem OU {nd:List (List Nat)} {bad:List Bool} (g:Gr nd bad) (D:List Nat) {i:Nat} (hi:i ∉ D) (u:Nat):cnt nd (D++[i]) u+(if i∈nd.getD u [] then 1 else 0)=cnt nd D u:=by
 unfold cnt
 have h1:((nd.getD u []).filter fun j=>decide (j ∉ D++[i]))=((nd.getD u []).filter fun j=>decide (j ∉ D)).filter fun j=>decide (j≠i):=by
  rw [List.filter_filter]
  apply List.filter_congr
  intro x _
  simp [List.mem_append,not_or,Bool.and_comm]
 have h2:=Ce ((g.nodup u).filter fun j=>decide (j ∉ D)) i
 rw [h1,<- h2]
 congr 1
 simp [List.mem_filter,hi]
theorem cnt_zero {nd:List (List Nat)} {D:List Nat} {u:Nat}:cnt nd D u=0 <-> ∀j∈nd.getD u [],j∈D:=by
 unfold cnt
 rw [List.length_eq_zero_iff,List.filter_eq_nil_iff]
 constructor
 ·intro h j hj;simpa using h j hj
 ·intro h j hj;simpa using h j hj
def sU (nd:List (List Nat)) (i j:Nat):List Nat:=(List.range i).filter fun u=>decide (j∈nd.getD u [])
def kX (nd:List (List Nat)) (i k j:Nat):List Nat:=sU nd i j++if j∈(nd.getD i []).take k then [i] else []
def fC (nd:List (List Nat)) (i k:Nat):List (List Nat):=(List.range nd.length).map (kX nd i k)
theorem uM (nd:List (List Nat)) (i k:Nat):(fC nd i k).length=nd.length:=by simp [fC]
theorem zo (nd:List (List Nat)) (i k:Nat) {j:Nat} (h:j<nd.length):(fC nd i k).getD j []=kX nd i k j:=by simp [fC,h]
theorem GV {nd:List (List Nat)} {bad:List Bool} (g:Gr nd bad) (i k:Nat) (h:k<(nd.getD i []).length) :
  (fC nd i k).set ((nd.getD i []).getD k 0) (kX nd i k ((nd.getD i []).getD k 0)++[i])=fC nd i (k+1):=by
 have hm:=getD_mem (nd.getD i []) k 0 h
 have hlt:=g.lt i _ hm
 have hnt:(nd.getD i []).getD k 0 ∉ (nd.getD i []).take k:=by
  have h1:=g.nodup i
  rw [<- List.take_append_drop (k+1) (nd.getD i []),aT _ _ 0 h] at h1
  have h2:=(List.nodup_append.1 (List.nodup_append.1 h1).1).2.2
  intro h3
  exact h2 _ h3 _ (by simp) rfl
 apply List.ext_getElem
 ·simp [fC]
 ·intro j h1 h2
  rw [List.getElem_set]
  simp only [fC,List.getElem_map,List.getElem_range]
  have ht:=aT (nd.getD i []) k 0 h
  by_cases hj:(nd.getD i []).getD k 0=j
  ·subst hj
   rw [if_pos rfl]
   unfold kX
   rw [if_neg hnt,ht,if_pos (by simp)]
   simp
  ·rw [if_neg hj]
   unfold kX
   rw [ht]
   congr 1
   simp only [List.mem_append,List.mem_singleton]
   have:¬ j=(nd.getD i []).getD k 0:=fun e=>hj e.symm
   simp only [this,or_false]
theorem GM {nd:List (List Nat)} (i:Nat):fC nd i (nd.getD i []).length=fC nd (i+1) 0:=by
 unfold fC
 apply List.map_congr_left
 intro j _
 unfold kX sU
 simp only [List.take_length,List.take_zero,List.not_mem_nil,if_false,List.append_nil]
 rw [List.range_succ,List.filter_append]
 congr 1
 by_cases h:j∈nd.getD i []
 ·simp only [List.filter_cons,List.filter_nil,h,decide_true,if_true]
 ·simp only [List.filter_cons,List.filter_nil,h,decide_false,if_false,Bool.false_eq_true]
theorem ET (nd:List (List Nat)) (i k j:Nat):(kX nd i k j).length<=i+1:=by
 unfold kX sU
 have:=List.length_filter_le (fun u=>decide (j∈nd.getD u [])) (List.range i)
 rw [List.length_append]
 simp at this ⊢
 split<;>simp<;>omega
def bP (nd:List (List Nat)) (j:Nat):List Nat:=sU nd nd.length j
theorem usersOf_mem {nd:List (List Nat)} {j u:Nat}:u∈bP nd j <-> u<nd.length/\j∈nd.getD u []:=by simp [bP,sU]
theorem ui (nd:List (List Nat)) (j:Nat):(bP nd j).Nodup:=List.nodup_range.filter _
def firstTo (nd:List (List Nat)) (bad:List Bool) (i:Nat):List Nat:=(List.range i).filter fun u=>decide (nd.getD u []=[]/\bad.getD u false=false)
theorem DN (nd:List (List Nat)) (bad:List Bool) (i:Nat):firstTo nd bad (i+1)=firstTo nd bad i++if nd.getD i []=[]/\bad.getD i false=false then [i] else []:=by
 unfold firstTo
 rw [List.range_succ,List.filter_append]
 congr 1
 by_cases h:nd.getD i []=[]/\bad.getD i false=false
 ·simp only [List.filter_cons,List.filter_nil,h,decide_true,if_true,and_self]
 ·simp only [List.filter_cons,List.filter_nil,h,decide_false,if_false,Bool.false_eq_true]
theorem F9 (nd:List (List Nat)) (bad:List Bool) (i:Nat):(firstTo nd bad i).length<=i:=by
 unfold firstTo
 have:=List.length_filter_le (fun u=>decide (nd.getD u []=[]/\bad.getD u false=false)) (List.range i)
 simpa using this
structure Rd (nd:List (List Nat)) (bad:List Bool) (r:Nat) (D now:List Nat) (rank left:List Int):Prop where
 lr:rank.length=nd.length
 ll:left.length=nd.length
 nodup:(D++now).Nodup
 lt:∀u∈D++now,u<nd.length
 left_:∀u,u<nd.length->left.getD u 0=(cnt nd D u:Int)
 out:∀u,u<nd.length->u ∉ D->rank.getD u 0 = -1
 in_:∀u∈D,0<=rank.getD u 0/\rank.getD u 0<r/\bad.getD u false=false/\(∀j∈nd.getD u [],j∈D/\rank.getD j 0<rank.getD u 0)/\(nd.getD u []=[]/\rank.getD u 0=0\/∃j∈nd.getD u [],rank.getD j 0=rank.getD u 0 - 1)
 now_:∀u,u∈now <-> u<nd.length/\u ∉ D/\bad.getD u false=false/\left.getD u 0=0
 new_:∀u∈now,(nd.getD u []=[]/\r=0)\/∃j∈nd.getD u [],j∈D/\rank.getD j 0=(r:Int) - 1
 few:r<=D.length
structure Md (nd:List (List Nat)) (bad:List Bool) (r:Nat) (D now:List Nat) (rank0:List Int) (k:Nat) (rank left:List Int) (next:List Nat):Prop where
 lr:rank.length=nd.length
 ll:left.length=nd.length
 rank_:∀u,rank.getD u 0=if u∈now.take k then (r:Int) else rank0.getD u 0
 left_:∀u,u<nd.length->left.getD u 0=(cnt nd (D++now.take k) u:Int)
 next_:∀u,u∈next <-> u<nd.length/\u ∉ D/\u ∉ now/\bad.getD u false=false/\left.getD u 0=0
 nodup:next.Nodup
structure Mi (nd:List (List Nat)) (bad:List Bool) (D now:List Nat) (k:Nat) (m:Nat) (left:List Int) (next:List Nat):Prop where
 ll:left.length=nd.length
 left_:∀u,u<nd.length->left.getD u 0=(cnt nd (D++now.take k) u:Int) - (if u∈(bP nd (now.getD k 0)).take m then 1 else 0)
 next_:∀u,u∈next <-> u<nd.length/\u ∉ D/\u ∉ now/\bad.getD u false=false/\left.getD u 0=0
 nodup:next.Nodup
theorem fA {l:List Nat} {n:Nat} (h:l.Nodup) (hl:∀u∈l,u<n):l.length<=n:=by
 induction n generalizing l with
 | zero =>
  cases l with
  | nil=>simp
  | cons a l=>exact absurd (hl a (by simp)) (by omega)
 | succ n ih =>
  have h1:=Ce h n
  have h2:=ih (h.filter fun j=>decide (j≠n)) fun u hu=>by
   have:=hl u (List.mem_filter.1 hu).1
   have:=(List.mem_filter.1 hu).2
   simp at this
   omega
  split at h1<;>omega
section
variable {nd:List (List Nat)} {bad:List Bool} {r k m:Nat} {D now next:List Nat} {rank0 left0 rank left:List Int}
theorem Rd.size (s:Rd nd bad r D now rank left):D.length+now.length<=nd.length:=by
 rw [<- List.length_append];exact fA s.nodup s.lt
theorem Md.size (s:Md nd bad r D now rank0 k rank left next):next.length<=nd.length:=fA s.nodup fun u hu=>((s.next_ u).1 hu).1
theorem Mi.size (s:Mi nd bad D now k m left next):next.length<=nd.length:=fA s.nodup fun u hu=>((s.next_ u).1 hu).1
theorem Rd.first (g:Gr nd bad) (h1:rank.length=nd.length) (h2:left.length=nd.length) (h3:∀u,u<nd.length->rank.getD u 0 = -1) (h4:∀u,u<nd.length->left.getD u 0=((nd.getD u []).length:Int)):Rd nd bad 0 [] (firstTo nd bad nd.length) rank left:=by
 have hm:∀u,u∈firstTo nd bad nd.length <-> u<nd.length/\nd.getD u []=[]/\bad.getD u false=false:=fun u=>by simp [firstTo]
 refine ⟨h1,h2,?_,?_,?_,fun u hu _=>h3 u hu,by simp,?_,?_,by simp⟩
 ·rw [List.nil_append];exact List.nodup_range.filter _
 ·intro u hu;rw [List.nil_append] at hu;exact ((hm u).1 hu).1
 ·intro u hu
  have:(nd.getD u []).filter (fun j=>decide (j ∉ ([]:List Nat)))=nd.getD u []:=List.filter_eq_self.2 fun a _=>by simp
  rw [h4 u hu,cnt,this]
 ·intro u
  rw [hm]
  constructor
  ·rintro ⟨a,b,c⟩;exact ⟨a,by simp,c,by rw [h4 u a,b];rfl⟩
  ·rintro ⟨a,_,c,d⟩
   rw [h4 u a] at d
   exact ⟨a,List.eq_nil_of_length_eq_zero (by omega),c⟩
 ·intro u hu;exact .inl ⟨((hm u).1 hu).2.1,rfl⟩
theorem Md.first (s:Rd nd bad r D now rank left):Md nd bad r D now rank 0 rank left []:=by
 refine ⟨s.lr,s.ll,by simp,by simpa using s.left_,?_,by simp⟩
 intro u
 simp only [List.not_mem_nil,false_iff]
 rintro ⟨a,b,c,d,e⟩
 exact c ((s.now_ u).2 ⟨a,b,d,e⟩)
theorem Md.enter (s:Md nd bad r D now rank0 k rank left next):Mi nd bad D now k 0 left next :=
 ⟨s.ll,fun u hu=>by rw [s.left_ u hu];simp,s.next_,s.nodup⟩
theorem Mi.step (g:Gr nd bad) (s0:Rd nd bad r D now rank0 left0) (s:Mi nd bad D now k m left next) (hk:k<now.length) (hm:m<(bP nd (now.getD k 0)).length) :
  (bP nd (now.getD k 0)).getD m 0<nd.length/\1<=left.getD ((bP nd (now.getD k 0)).getD m 0) 0/\left.getD ((bP nd (now.getD k 0)).getD m 0) 0<=256 /\
  Mi nd bad D now k (m+1) (left.set ((bP nd (now.getD k 0)).getD m 0) (left.getD ((bP nd (now.getD k 0)).getD m 0) 0 - 1))
   (if left.getD ((bP nd (now.getD k 0)).getD m 0) 0 - 1=0/\bad.getD ((bP nd (now.getD k 0)).getD m 0) false=false then next++[(bP nd (now.getD k 0)).getD m 0] else next):=by
 generalize hi:now.getD k 0=i at *
 generalize hu:(bP nd i).getD m 0=u at *
 have hun:u∈bP nd i:=by rw [<- hu];exact getD_mem _ _ _ hm
 obtain ⟨h1,h2⟩:=usersOf_mem.1 hun
 have hin:i∈now:=by rw [<- hi];exact getD_mem _ _ _ hk
 have hnk:i ∉ D++now.take k:=by
  have h3:=s0.nodup
  rw [<- List.take_append_drop (k+1) now,aT _ _ 0 hk,hi,<- List.append_assoc,<- List.append_assoc] at h3
  have h4:=(List.nodup_append.1 (List.nodup_append.1 h3).1).2.2
  intro h5
  exact h4 _ h5 _ (by simp) rfl
 have hnt:u ∉ (bP nd i).take m:=by
  have h3:=ui nd i
  rw [<- List.take_append_drop (m+1) (bP nd i),aT _ _ 0 hm,hu] at h3
  have h4:=(List.nodup_append.1 (List.nodup_append.1 h3).1).2.2
  intro h5
  exact h4 _ h5 _ (by simp) rfl
 have hl:=s.left_ u h1
 rw [hi] at hl
 rw [if_neg hnt] at hl
 have hpos:1<=cnt nd (D++now.take k) u:=by
  have:cnt nd (D++now.take k) u≠0:=fun h=>hnk (cnt_zero.1 h i h2)
  omega
 have hbig:cnt nd (D++now.take k) u<=256:=by
  have h3:cnt nd (D++now.take k) u<=(nd.getD u []).length:=List.length_filter_le _ _
  have h4:=g.len u
  have h5:=g.size
  omega
 have huD:u ∉ D:=fun h=>by
  have:=(s0.in_ u h).2.2.2.1 i h2
  exact hnk (by simp [this.1])
 have huN:u ∉ now:=fun h=>by
  have h3:=(s0.now_ u).1 h
  rw [s0.left_ u h3.1] at h3
  have h4:=cnt_zero.1 (show cnt nd D u=0 by omega) i h2
  exact hnk (by simp [h4])
 have hne:u ∉ next:=fun h=>by
  have:=((s.next_ u).1 h).2.2.2.2
  omega
 refine ⟨h1,by omega,by omega,⟨by simpa using s.ll,?_,?_,?_⟩⟩
 ·intro v hv
  rw [gJ _ _ _ _ _ (by rw [s.ll];exact h1),hi,aT _ _ 0 hm,hu]
  have:=s.left_ v hv
  rw [hi] at this
  by_cases huv:u=v
  ·subst huv
   rw [if_pos rfl,if_pos (by simp)]
   omega
  ·have hvu:¬ v=u:=fun e=>huv e.symm
   rw [if_neg huv,this]
   simp [hvu]
 ·intro v
  rw [gJ _ _ _ _ _ (by rw [s.ll];exact h1)]
  have hv:=s.next_ v
  by_cases huv:u=v
  ·subst huv
   rw [if_pos rfl]
   split
   ·rename_i hc
    simp only [List.mem_append,List.mem_singleton,or_true,true_iff]
    exact ⟨h1,huD,huN,hc.2,hc.1⟩
   ·rename_i hc
    simp only [hne,false_iff]
    rintro ⟨_,_,_,a,b⟩
    exact hc ⟨b,a⟩
  ·rw [if_neg huv,<- hv]
   have hvu:¬ v=u:=fun e=>huv e.symm
   split<;>simp [hvu]
 ·split
  ·rw [List.nodup_append]
   exact ⟨s.nodup,by simp,fun a ha b hb=>by simp at hb;subst hb;exact fun e=>hne (e▸ha)⟩
  ·exact s.nodup
theorem Md.step (g:Gr nd bad) (s0:Rd nd bad r D now rank0 left0) (s:Md nd bad r D now rank0 k rank left next) (hk:k<now.length) {left':List Int} {next':List Nat} (t:Mi nd bad D now k (bP nd (now.getD k 0)).length left' next') :
  Md nd bad r D now rank0 (k+1) (rank.set (now.getD k 0) r) left' next':=by
 have hin:now.getD k 0∈now:=getD_mem _ _ _ hk
 have hlt:now.getD k 0<nd.length:=s0.lt _ (by simp only [List.mem_append];exact .inr hin)
 have hnk:now.getD k 0 ∉ D++now.take k:=by
  have h3:=s0.nodup
  rw [<- List.take_append_drop (k+1) now,aT _ _ 0 hk,<- List.append_assoc,<- List.append_assoc] at h3
  have h4:=(List.nodup_append.1 (List.nodup_append.1 h3).1).2.2
  intro h5
  exact h4 _ h5 _ (by simp) rfl
 refine ⟨by simpa using s.lr,t.ll,?_,?_,t.next_,t.nodup⟩
 ·intro u
  rw [gJ _ _ _ _ _ (by rw [s.lr];exact hlt),aT _ _ 0 hk,s.rank_ u]
  by_cases h:now.getD k 0=u
  ·subst h;rw [if_pos rfl,if_pos (by simp)]
  ·rw [if_neg h]
   have h':¬ u=now.getD k 0:=fun e=>h e.symm
   simp only [List.mem_append,List.mem_singleton,h',or_false]
 ·intro u hu
  rw [t.left_ u hu,List.take_length,aT _ _ 0 hk,<- List.append_assoc]
  have:=OU g (D++now.take k) hnk u
  simp only [usersOf_mem,hu,true_and]
  by_cases hx:now.getD k 0∈nd.getD u []
  ·rw [if_pos hx] at this ⊢;omega
  ·rw [if_neg hx] at this ⊢;omega
theorem Rd.step (g:Gr nd bad) (s0:Rd nd bad r D now rank0 left0) (hne:now≠[]) (s:Md nd bad r D now rank0 now.length rank left next):Rd nd bad (r+1) (D++now) next rank left:=by
 have hr:=s.rank_
 have hL:=s.left_
 rw [List.take_length] at hr hL
 have disj:∀u∈D,u ∉ now:=fun u hu h=>(List.nodup_append.1 s0.nodup).2.2 u hu u h rfl
 have rD:∀u∈D,rank.getD u 0=rank0.getD u 0:=fun u hu=>by rw [hr,if_neg (disj u hu)]
 have rN:∀u∈now,rank.getD u 0=r:=fun u hu=>by rw [hr,if_pos hu]
 have hall:∀u∈now,∀j∈nd.getD u [],j∈D:=fun u hu j hj=>by
  have h:=(s0.now_ u).1 hu
  rw [s0.left_ u h.1] at h
  exact cnt_zero.1 (show cnt nd D u=0 by omega) j hj
 refine ⟨s.lr,s.ll,?_,?_,hL,?_,?_,?_,?_,?_⟩
 ·rw [List.nodup_append]
  refine ⟨s0.nodup,s.nodup,fun a ha b hb e=>?_⟩
  subst e
  have:=(s.next_ a).1 hb
  rcases List.mem_append.1 ha with h|h
  ·exact this.2.1 h
  ·exact this.2.2.1 h
 ·intro u hu
  rcases List.mem_append.1 hu with h|h
  ·exact s0.lt u h
  ·exact ((s.next_ u).1 h).1
 ·intro u hu hn
  simp only [List.mem_append,not_or] at hn
  rw [hr,if_neg hn.2]
  exact s0.out u hu hn.1
 ·intro u hu
  rcases List.mem_append.1 hu with h|h
  ·obtain ⟨a,b,c,d,e⟩:=s0.in_ u h
   rw [rD u h]
   refine ⟨a,by omega,c,fun j hj=>?_,?_⟩
   ·obtain ⟨d1,d2⟩:=d j hj
    exact ⟨by simp [d1],by rw [rD j d1];exact d2⟩
   ·rcases e with e|⟨j,hj,e⟩
    ·exact .inl e
    ·exact .inr ⟨j,hj,by rw [rD j (d j hj).1];exact e⟩
  ·have hb:=((s0.now_ u).1 h).2.2.1
   rw [rN u h]
   refine ⟨by omega,by omega,hb,fun j hj=>?_,?_⟩
   ·have hj':=hall u h j hj
    have:=(s0.in_ j hj').2.1
    exact ⟨by simp [hj'],by rw [rD j hj'];exact this⟩
   ·rcases s0.new_ u h with ⟨e,rfl⟩|⟨j,hj,hjD,e⟩
    ·exact .inl ⟨e,rfl⟩
    ·exact .inr ⟨j,hj,by rw [rD j hjD];exact e⟩
 ·intro u
  rw [s.next_ u]
  simp only [List.mem_append,not_or,and_assoc]
 ·intro u hu
  right
  have h:=(s.next_ u).1 hu
  have h0:cnt nd (D++now) u=0:=by have:=hL u h.1;omega
  have h1:cnt nd D u≠0:=fun e=>h.2.2.1 ((s0.now_ u).2 ⟨h.1,h.2.1,h.2.2.2.1,by rw [s0.left_ u h.1,e];rfl⟩)
  have h2:∃j∈nd.getD u [],j ∉ D:=by
   apply Classical.byContradiction
   intro hno
   exact h1 (cnt_zero.2 fun j hj=>Classical.byContradiction fun hjd=>hno ⟨j,hj,hjd⟩)
  obtain ⟨j,hj,hjd⟩:=h2
  have hjn:j∈now:=by
   rcases List.mem_append.1 (cnt_zero.1 h0 j hj) with h|h
   ·exact absurd h hjd
   ·exact h
  exact ⟨j,hj,by simp [hjn],by rw [rN j hjn];omega⟩
 ·have h1:=s0.few
  have h2:0<now.length:=List.length_pos_iff.2 hne
  rw [List.length_append]
  omega
structure IsRank (nd:List (List Nat)) (bad:List Bool) (rank:List Int):Prop where
 len:rank.length=nd.length
 low:∀u,u<nd.length -> -1<=rank.getD u 0/\rank.getD u 0<nd.length
 in_:∀u,u<nd.length->0<=rank.getD u 0->bad.getD u false=false/\(∀j∈nd.getD u [],0<=rank.getD j 0/\rank.getD j 0<rank.getD u 0)/\(nd.getD u []=[]/\rank.getD u 0=0\/∃j∈nd.getD u [],rank.getD j 0=rank.getD u 0 - 1)
 out:∀u,u<nd.length->rank.getD u 0 = -1->bad.getD u false=true\/∃j∈nd.getD u [],rank.getD j 0 = -1
theorem Rd.ranks (g:Gr nd bad) (s:Rd nd bad r D [] rank left):IsRank nd bad rank:=by
 have hs:=s.size
 have hf:=s.few
 have hD:∀u,u<nd.length->0<=rank.getD u 0->u∈D:=fun u hu h=>Classical.byContradiction fun hn=>by
  have:=s.out u hu hn;omega
 refine ⟨s.lr,fun u hu=>?_,fun u hu h=>?_,fun u hu h=>?_⟩
 ·by_cases hd:u∈D
  ·have:=s.in_ u hd
   simp only [List.length_nil] at hs
   omega
  ·have:=s.out u hu hd;omega
 ·obtain ⟨_,_,a,b,c⟩:=s.in_ u (hD u hu h)
  exact ⟨a,fun j hj=>⟨(s.in_ j (b j hj).1).1,(b j hj).2⟩,c⟩
 ·have hd:u ∉ D:=fun hd=>by have:=(s.in_ u hd).1;omega
  cases hb:bad.getD u false with
  | true=>exact .inl rfl
  | false =>
   right
   have hl:cnt nd D u≠0:=fun e=>by
    have:=(s.now_ u).2 ⟨hu,hd,hb,by rw [s.left_ u hu,e];rfl⟩
    cases this
   apply Classical.byContradiction
   intro hno
   apply hl
   refine cnt_zero.2 fun j hj=>Classical.byContradiction fun hjd=>hno ⟨j,hj,s.out j (g.lt u j hj) hjd⟩
end
section
variable {nd:List (List Nat)} {bad:List Bool} {a b:List Int}
theorem IsRank.le (g:Gr nd bad) (ha:IsRank nd bad a) (hb:IsRank nd bad b):∀ (m:Nat) (u:Nat),u<nd.length->a.getD u 0=m->b.getD u 0=m:=by
 intro m
 induction m using Nat.strongRecOn with
 | _ m ih =>
  intro u hu e
  obtain ⟨h1,h2,h3⟩:=ha.in_ u hu (by omega)
  have same:∀j∈nd.getD u [],b.getD j 0=a.getD j 0:=fun j hj=>by
   obtain ⟨p,q⟩:=h2 j hj
   have:=ih (a.getD j 0).toNat (by omega) j (g.lt u j hj) (by omega)
   omega
  have hl:=(hb.low u hu).1
  have hpos:0<=b.getD u 0:=by
   apply Classical.byContradiction
   intro hn
   rcases hb.out u hu (by omega) with h|⟨j,hj,h⟩
   ·rw [h1] at h;cases h
   ·have:=same j hj
    have:=(h2 j hj).1
    omega
  obtain ⟨_,k2,k3⟩:=hb.in_ u hu hpos
  rcases h3 with ⟨h3,h4⟩|⟨j,hj,h3⟩
  ·rcases k3 with ⟨_,k4⟩|⟨j,hj,_⟩
   ·omega
   ·rw [h3] at hj;cases hj
  ·rcases k3 with ⟨k3,_⟩|⟨j',hj',k3⟩
   ·rw [k3] at hj;cases hj
   ·have p1:=same j hj
    have p2:=same j' hj'
    have p3:=(h2 j' hj').2
    have p4:=(k2 j hj).2
    omega
theorem IsRank.unique (g:Gr nd bad) (ha:IsRank nd bad a) (hb:IsRank nd bad b):a=b:=by
 apply List.ext_getElem
 ·rw [ha.len,hb.len]
 ·intro i h1 h2
  have hi:i<nd.length:=by rw [<- ha.len];exact h1
  have e1:a.getD i 0=a[i]:=by simp [h1]
  have e2:b.getD i 0=b[i]:=by simp [h2]
  rw [<- e1,<- e2]
  have la:=(ha.low i hi).1
  have lb:=(hb.low i hi).1
  by_cases h:0<=a.getD i 0
  ·have:=IsRank.le g ha hb (a.getD i 0).toNat i hi (by omega)
   omega
  ·by_cases h':0<=b.getD i 0
   ·have:=IsRank.le g hb ha (b.getD i 0).toNat i hi (by omega)
    omega
   ·omega
end
end Go.Proofs.Ytjlidhijnohkbaa
