set_option linter.unusedSimpArgs false
set_option linter.unusedVariables false
namespace Go.BF
def lt:List Nat->List Nat->Prop
 | a::u,b::v=>a<b\/a=b/\lt u v
 | _,_=>False
def slt (u v:List Nat):Prop:=u.length<v.length\/u.length=v.length/\lt u v
theorem lt.trans:∀ {u v w:List Nat},lt u v->lt v w->lt u w
 | [],_,_,h,_=>by cases h
 | _::_,[],_,h,_=>by cases h
 | _::_,_::_,[],_,h=>by cases h
 | a::u,b::v,c::w,h,g=>by
  simp only [lt] at h g ⊢
  rcases h with h|⟨rfl,h⟩<;>rcases g with g|⟨rfl,g⟩
  ·exact .inl (by omega)
  ·exact .inl h
  ·exact .inl g
  ·exact .inr ⟨rfl,lt.trans h g⟩
theorem lt.irrefl:∀ {u:List Nat},¬ lt u u
 | [],h=>by cases h
 | a::u,h=>by
  simp only [lt] at h
  rcases h with h|⟨_,h⟩
  ·omega
  ·exact lt.irrefl h
theorem lt.app:∀ {u v:List Nat} (x y:List Nat),u.length=v.length->lt u v->lt (u++x) (v++y)
 | [],_,_,_,_,h=>by cases h
 | _::_,[],_,_,_,h=>by cases h
 | a::u,b::v,x,y,e,h=>by
  simp only [lt,List.cons_append] at h ⊢
  rcases h with h|⟨rfl,h⟩
  ·exact .inl h
  ·exact .inr ⟨rfl,lt.app x y (by simpa using e) h⟩
theorem lt.pre:∀ (u:List Nat) {x y:List Nat},lt x y->lt (u++x) (u++y)
 | [],_,_,h=>h
 | _::u,_,_,h=>.inr ⟨rfl,lt.pre u h⟩
theorem slt.trans {u v w:List Nat} (h:slt u v) (g:slt v w):slt u w:=by
 unfold slt at *
 rcases h with h|⟨h,h'⟩<;>rcases g with g|⟨g,g'⟩
 ·exact .inl (by omega)
 ·exact .inl (by omega)
 ·exact .inl (by omega)
 ·exact .inr ⟨by omega,h'.trans g'⟩
theorem slt.app {u v:List Nat} (a b:Nat) (h:slt u v):slt (u++[a]) (v++[b]):=by
 unfold slt at *
 rcases h with h|⟨h,h'⟩
 ·exact .inl (by simpa using h)
 ·exact .inr ⟨by simpa using h,h'.app _ _ h⟩
theorem slt.last (u:List Nat) {a b:Nat} (h:a<b):slt (u++[a]) (u++[b]):=.inr ⟨by simp,lt.pre u (.inl h)⟩
theorem slt.longer (u:List Nat) (a:Nat):slt u (u++[a]):=.inl (by simp)
structure En where
 k:Nat
 fr:Nat
 sy:Nat
 w:List Nat
 deriving Inhabited
def before (a b:En):Prop:=a.fr<b.fr\/a.fr=b.fr/\a.sy<b.sy
def run (δ:Nat->Nat->Nat) (k:Nat) (u:List Nat):Nat:=u.foldl δ k
theorem Es (δ:Nat->Nat->Nat) (k:Nat) (u:List Nat) (s:Nat):run δ k (u++[s])=δ (run δ k u) s:=by simp [run]
structure BF (δ:Nat->Nat->Nat) (S st:Nat) (L:List En) (i s:Nat):Prop where
 pos:0<L.length
 root:L.getD 0 default=⟨st,0,0,[]⟩
 par:∀j,0<j->j<L.length->∃f,(L.getD j default).fr=f+1/\f<j/\(L.getD j default).sy<S/\(L.getD j default).k=δ (L.getD f default).k (L.getD j default).sy/\(L.getD j default).w=(L.getD f default).w++[(L.getD j default).sy]/\(f<i\/f=i/\(L.getD j default).sy<s)
 inc:∀j j',j<j'->j'<L.length->before (L.getD j default) (L.getD j' default)
 seen:∀f t,(f<i\/f=i/\t<s)->f<L.length->t<S->∃j,j<L.length/\(L.getD j default).k=δ (L.getD f default).k t/\((L.getD j default).fr<f+1\/(L.getD j default).fr=f+1/\(L.getD j default).sy<=t)
 dist:(L.map (·.k)).Nodup
section
variable {δ:Nat->Nat->Nat} {S st:Nat} {L:List En} {i s:Nat}
theorem BF.start (δ:Nat->Nat->Nat) (S st:Nat):BF δ S st [⟨st,0,0,[]⟩] 0 0 :=
 ⟨by simp,rfl,fun j h0 hj=>by simp at hj;omega,fun j j' h hj=>by simp at hj;omega,fun f t h hf _=>by omega,by simp⟩
theorem BF.next (b:BF δ S st L i S):BF δ S st L (i+1) 0:=by
 refine ⟨b.pos,b.root,fun j h0 hj=>?_,b.inc,fun f t h hf ht=>?_,b.dist⟩
 ·obtain ⟨f,h1,h2,h3,h4,h5,h6⟩:=b.par j h0 hj
  exact ⟨f,h1,h2,h3,h4,h5,by omega⟩
 ·exact b.seen f t (by omega) hf ht
theorem jc (L:List En) (e:En) {j:Nat} (h:j<L.length):(L++[e]).getD j default=L.getD j default:=by
 rw [List.getD_eq_getElem?_getD,List.getD_eq_getElem?_getD,List.getElem?_append_left h]
theorem vS (L:List En) (e:En):(L++[e]).getD L.length default=e:=by simp
theorem Rj {L:List En} {k:Nat} (h:k∈L.map (·.k)):∃j,j<L.length/\(L.getD j default).k=k:=by
 obtain ⟨e,he,rfl⟩:=List.mem_map.1 h
 obtain ⟨j,hj,rfl⟩:=List.getElem_of_mem he
 exact ⟨j,hj,by simp [hj]⟩
theorem BF.old (b:BF δ S st L i s) (hk:δ (L.getD i default).k s∈L.map (·.k)):BF δ S st L i (s+1):=by
 refine ⟨b.pos,b.root,fun j h0 hj=>?_,b.inc,fun f t h hf ht=>?_,b.dist⟩
 ·obtain ⟨f,h1,h2,h3,h4,h5,h6⟩:=b.par j h0 hj
  exact ⟨f,h1,h2,h3,h4,h5,by omega⟩
 ·by_cases e:f=i/\t=s
  ·obtain ⟨rfl,rfl⟩:=e
   obtain ⟨j,hj,h2⟩:=Rj hk
   refine ⟨j,hj,h2,?_⟩
   rcases Nat.eq_zero_or_pos j with rfl|h0
   ·rw [b.root];exact .inl (by simp)
   ·obtain ⟨g,h1,_,_,_,_,h6⟩:=b.par j h0 hj
    rw [h1]
    omega
  ·exact b.seen f t (by omega) hf ht
theorem BF.add (b:BF δ S st L i s) (hi:i<L.length) (hs:s<S) (hk:δ (L.getD i default).k s ∉ L.map (·.k)) :
  BF δ S st (L++[⟨δ (L.getD i default).k s,i+1,s,(L.getD i default).w++[s]⟩]) i (s+1):=by
 have hl:(L++[(⟨δ (L.getD i default).k s,i+1,s,(L.getD i default).w++[s]⟩:En)]).length=L.length+1:=by simp
 refine ⟨by omega,by rw [jc _ _ b.pos];exact b.root,fun j h0 hj=>?_,fun j j' h hj=>?_,fun f t h hf ht=>?_,?_⟩
 ·rw [hl] at hj
  by_cases e:j<L.length
  ·obtain ⟨f,h1,h2,h3,h4,h5,h6⟩:=b.par j h0 e
   rw [jc _ _ e]
   exact ⟨f,h1,h2,h3,by rw [jc _ _ (by omega)];exact h4,by rw [jc _ _ (by omega)];exact h5,by omega⟩
  ·obtain rfl:j=L.length:=by omega
   rw [vS]
   exact ⟨i,rfl,hi,hs,by rw [jc _ _ hi],by rw [jc _ _ hi],by right;exact ⟨rfl,by simp⟩⟩
 ·rw [hl] at hj
  by_cases e:j'<L.length
  ·rw [jc _ _ e,jc _ _ (by omega)];exact b.inc j j' h e
  ·obtain rfl:j'=L.length:=by omega
   rw [vS,jc _ _ h]
   unfold before
   rcases Nat.eq_zero_or_pos j with rfl|h0
   ·rw [b.root];exact .inl (by simp)
   ·obtain ⟨g,h1,_,_,_,_,h6⟩:=b.par j h0 h
    rw [h1]
    simp only
    omega
 ·rw [hl] at hf
  rcases Nat.lt_or_ge f L.length with hf2|hf2
  ·by_cases e:f=i/\t=s
   ·obtain ⟨rfl,rfl⟩:=e
    refine ⟨L.length,by omega,?_,?_⟩
    ·rw [vS,jc _ _ hf2]
    ·rw [vS];exact .inr ⟨rfl,Nat.le_refl _⟩
   ·obtain ⟨j,hj,h2,h3⟩:=b.seen f t (by omega) hf2 ht
    exact ⟨j,by omega,by rw [jc _ _ hj,jc _ _ hf2];exact h2,by rw [jc _ _ hj];exact h3⟩
  ·omega
 ·rw [List.map_append,List.nodup_append]
  refine ⟨b.dist,by simp,fun a ha c hc=>?_⟩
  simp only [List.map_cons,List.map_nil,List.mem_singleton] at hc
  rintro rfl
  rw [hc] at ha
  exact hk ha
theorem BF.words (b:BF δ S st L i s):∀j j',j<j'->j'<L.length->slt (L.getD j default).w (L.getD j' default).w:=by
 intro j j'
 induction j' using Nat.strongRecOn generalizing j with
 | _ j' ih =>
  intro h hj
  obtain ⟨f',h1,h2,h3,h4,h5,_⟩:=b.par j' (by omega) hj
  rw [h5]
  rcases Nat.eq_zero_or_pos j with rfl|h0
  ·rw [b.root];exact .inl (by simp)
  obtain ⟨f,g1,g2,g3,g4,g5,_⟩:=b.par j h0 (by omega)
  rw [g5]
  have hb:=b.inc j j' h hj
  unfold before at hb
  rw [h1,g1] at hb
  rcases hb with hb|⟨hb,hs⟩
  ·exact (ih f' h2 f (by omega) (by omega)).app _ _
  ·obtain rfl:f=f':=by omega
   exact slt.last _ hs
theorem BF.run (b:BF δ S st L i s):∀j,j<L.length->run δ st (L.getD j default).w=(L.getD j default).k/\∀t∈(L.getD j default).w,t<S:=by
 intro j
 induction j using Nat.strongRecOn with
 | _ j ih =>
  intro hj
  rcases Nat.eq_zero_or_pos j with rfl|h0
  ·rw [b.root];exact ⟨rfl,by simp⟩
  obtain ⟨f,h1,h2,h3,h4,h5,_⟩:=b.par j h0 hj
  obtain ⟨e1,e2⟩:=ih f h2 (by omega)
  rw [h5,Es,e1,h4]
  refine ⟨rfl,fun t ht=>?_⟩
  rcases List.mem_append.1 ht with ht|ht
  ·exact e2 t ht
  ·rw [List.mem_singleton.1 ht];exact h3
theorem BF.cover (b:BF δ S st L i 0):∀ (n:Nat) (u:List Nat),u.length=n->(∀t∈u,t<S)->(∃j,j<L.length/\(L.getD j default).k=Go.BF.run δ st u/\((L.getD j default).w=u\/slt (L.getD j default).w u))\/i<L.length/\slt (L.getD i default).w u:=by
 intro n
 induction n with
 | zero =>
  intro u hu _
  obtain rfl:u=[]:=List.eq_nil_of_length_eq_zero hu
  exact .inl ⟨0,b.pos,by rw [b.root];rfl,by rw [b.root];exact .inl rfl⟩
 | succ n ih =>
  intro u hu ha
  have hne:u≠[]:=fun e=>by rw [e] at hu;simp at hu
  obtain ⟨v,t,rfl⟩:∃v t,u=v++[t]:=⟨u.dropLast,u.getLast hne,(List.dropLast_concat_getLast hne).symm⟩
  have hv:v.length=n:=by simpa using hu
  have ht:t<S:=ha t (by simp)
  rcases ih v hv (fun x hx=>ha x (by simp [hx])) with ⟨f,hf,h1,h2⟩|⟨h1,h2⟩
  ·by_cases hfi:f<i
   ·obtain ⟨j,hj,g1,g2⟩:=b.seen f t (.inl hfi) hf ht
    refine .inl ⟨j,hj,by rw [g1,h1,Es],?_⟩
    rcases Nat.eq_zero_or_pos j with rfl|h0
    ·rw [b.root];exact .inr (.inl (by simp))
    obtain ⟨f',p1,p2,p3,p4,p5,_⟩:=b.par j h0 hj
    rw [p5]
    rw [p1] at g2
    have h3:(L.getD f default).w++[t]=v++[t]\/slt ((L.getD f default).w++[t]) (v++[t]):=by
     rcases h2 with h2|h2
     ·exact .inl (by rw [h2])
     ·exact .inr (h2.app _ _)
    have h4:(L.getD f' default).w++[(L.getD j default).sy]=(L.getD f default).w++[t]\/slt ((L.getD f' default).w++[(L.getD j default).sy]) ((L.getD f default).w++[t]):=by
     rcases g2 with g2|⟨g2,g3⟩
     ·exact .inr ((b.words f' f (by omega) hf).app _ _)
     ·obtain rfl:f'=f:=by omega
      rcases Nat.lt_or_ge (L.getD j default).sy t with h|h
      ·exact .inr (slt.last _ h)
      ·exact .inl (by rw [show (L.getD j default).sy=t by omega])
    rcases h4 with h4|h4
    ·rw [h4];exact h3
    ·rcases h3 with h3|h3
     ·rw [<- h3];exact .inr h4
     ·exact .inr (h4.trans h3)
   ·refine .inr ⟨by omega,?_⟩
    have h3:slt (L.getD f default).w (v++[t]):=by
     rcases h2 with h2|h2
     ·rw [h2];exact slt.longer _ _
     ·exact h2.trans (slt.longer _ _)
    rcases Nat.lt_or_ge i f with h|h
    ·exact (b.words i f h hf).trans h3
    ·obtain rfl:i=f:=by omega
     exact h3
  ·exact .inr ⟨h1,h2.trans (slt.longer _ _)⟩
def Least (δ:Nat->Nat->Nat) (S st:Nat) (good:Nat->Bool) (w:List Nat):Prop :=
 (∀t∈w,t<S)/\good (Go.BF.run δ st w)=true/\∀u:List Nat,(∀t∈u,t<S)->good (Go.BF.run δ st u)=true->w=u\/slt w u
def None (δ:Nat->Nat->Nat) (S st:Nat) (good:Nat->Bool):Prop:=∀u:List Nat,(∀t∈u,t<S)->good (Go.BF.run δ st u)=false
theorem BF.least {good:Nat->Bool} (b:BF δ S st L i 0) (hi:i<L.length) (h:∀j,j<i->good (L.getD j default).k=false) (hg:good (L.getD i default).k=true):Least δ S st good (L.getD i default).w:=by
 obtain ⟨e1,e2⟩:=b.run i hi
 refine ⟨e2,by rw [e1];exact hg,fun u hu hgu=>?_⟩
 rcases b.cover _ u rfl hu with ⟨j,hj,h1,h2⟩|⟨_,h2⟩
 ·have hji:¬ j<i:=fun hlt=>by have:=h j hlt;rw [h1,hgu] at this;cases this
  rcases Nat.lt_or_ge i j with h3|h3
  ·have:=b.words i j h3 hj
   rcases h2 with h2|h2
   ·rw [<- h2];exact .inr this
   ·exact .inr (this.trans h2)
  ·obtain rfl:j=i:=by omega
   exact h2
 ·exact .inr h2
theorem BF.none {good:Nat->Bool} (b:BF δ S st L i 0) (hi:L.length<=i) (h:∀j,j<L.length->good (L.getD j default).k=false):None δ S st good:=fun u hu=>by
 rcases b.cover _ u rfl hu with ⟨j,hj,h1,_⟩|⟨h1,_⟩
 ·rw [<- h1];exact h j hj
 ·omega
end
end Go.BF
