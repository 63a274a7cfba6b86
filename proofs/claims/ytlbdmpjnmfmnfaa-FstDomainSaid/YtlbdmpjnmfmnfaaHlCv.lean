import Derived.Test.YtlbdmpjnmfmnfaaFtX
import Derived.Test.YtlbdmpjnmfmnfaaMnB
import Derived.Test.YtlbdmpjnmfmnfaaFwD
import Derived.Test.YtlbdmpjnmfmnfaaHlW
import Derived.Test.YtlbdmpjnmfmnfaaFs3
import Derived.Test.YtlbdmpjnmfmnfaaHlFi
import Derived.Test.YtlbdmpjnmfmnfaaHl5
set_option linter.unusedSimpArgs false
set_option linter.unusedVariables false
set_option linter.unusedSectionVars false
set_option linter.unnecessarySimpa false
set_option maxHeartbeats 8000000
section
namespace Go.FS
open Go.MN
def SpD (al:List A) (n:Nat) (δ:List Bool->Nat->List Bool):Prop:=∀b (s:Nat),(δ b s).length=n/\∀i:Nat,i<n->((δ b s).getD i false=true <-> ∃a∈al,∃v,a.i=s/\b.getD a.f.toNat false=true/\Tr al a.t [] v i)
def SpS (al:List A) (n:Nat) (x:List Bool):Prop:=x.length=n/\∀i:Nat,i<n->(x.getD i false=true <-> ∃v,Tr al 0 [] v i)
def SpC (al:List A) (n:Nat) (x y:List Bool):Prop:=y.length=n/\∀i:Nat,i<n->(y.getD i false=true <-> ∃j:Nat,j<n/\x.getD j false=true/\∃v,Tr al j [] v i)
theorem uV {n:Nat} {x y:List Bool} (hx:x.length=n) (hy:y.length=n) (h:∀i,i<n->(x.getD i false=true <-> y.getD i false=true)):x=y:=by
 apply List.ext_getElem (by omega)
 intro i h1 h2
 have:=h i (by omega)
 rw [List.getD_eq_getElem?_getD,List.getElem?_eq_getElem h1,List.getD_eq_getElem?_getD,List.getElem?_eq_getElem h2,Option.getD_some,Option.getD_some] at this
 cases hx:x[i]<;>cases hy:y[i]<;>simp_all
theorem VR (n:Nat) (p:Nat->Prop):∃x:List Bool,x.length=n/\∀i,i<n->(x.getD i false=true <-> p i) :=
 ⟨(List.range n).map fun i=>@decide (p i) (Classical.propDecidable _),by simp,fun i hi=>by
  rw [List.getD_eq_getElem?_getD,List.getElem?_map,List.getElem?_range hi,Option.map_some,Option.getD_some]
  exact @decide_eq_true_iff (p i) (Classical.propDecidable _)⟩
section
variable {al:List A} {fin:List Bool} {n sz:Nat} {δ δ':List Bool->Nat->List Bool} {x x':List Bool}
theorem SpD.ex (al:List A) (n:Nat):∃δ,SpD al n δ:=by
 have h:∀ (b:List Bool) (s:Nat),∃y:List Bool,y.length=n/\∀i,i<n->(y.getD i false=true <-> ∃a∈al,∃v,a.i=s/\b.getD a.f.toNat false=true/\Tr al a.t [] v (i:Int)):=fun b s=>VR n _
 exact ⟨fun b s=>Classical.choose (h b s),fun b s=>Classical.choose_spec (h b s)⟩
theorem SpS.ex (al:List A) (n:Nat):∃x,SpS al n x:=VR n _
theorem SpD.unique (h:SpD al n δ) (h':SpD al n δ'):δ'=δ:=by
 funext b s
 exact uV (h' b s).1 (h b s).1 fun i hi=>by rw [(h' b s).2 i hi,(h b s).2 i hi]
theorem SpS.unique (h:SpS al n x) (h':SpS al n x'):x'=x:=uV h'.1 h.1 fun i hi=>by rw [h'.2 i hi,h.2 i hi]
theorem Tr.last {p q:Int} {w v:List Int} (h:Tr al p w v q):∀ {u:List Int} {s:Int},w=u++[s]->∃a v1 v2,a∈al/\a.i=s/\Tr al p u v1 a.f/\Tr al a.t [] v2 q:=by
 refine Tr.rev (P:=fun w v q=>∀ {u:List Int} {s:Int},w=u++[s]->∃a v1 v2,a∈al/\a.i=s/\Tr al p u v1 a.f/\Tr al a.t [] v2 q) (fun {u s} e=>by simp at e) (fun {w v a} ht ih ha u s e=>?_) h
 by_cases hi:a.i = -1
 ·rw [sy,if_pos hi,List.append_nil] at e
  obtain ⟨b,v1,v2,h1,h2,h3,h4⟩:=ih e
  have:=h4.snoc ha rfl
  rw [sy,if_pos hi] at this
  exact ⟨b,v1,_,h1,h2,h3,this⟩
 ·rw [sy,if_neg hi] at e
  obtain ⟨rfl,h2⟩:=List.append_inj' e rfl
  simp at h2
  exact ⟨a,v,[],ha,h2,ht,.nil⟩
theorem ZC (hk:∀a∈al,0<=a.f/\a.f<n) (hδ:SpD al n δ) (hx:SpS al n x):∀ (k:Nat) (u:List Nat),u.length=k->(u.foldl δ x).length=n/\∀i:Nat,i<n->((u.foldl δ x).getD i false=true <-> ∃v,Tr al 0 (u.map fun t:Nat=>(t:Int)) v i):=by
 intro k
 induction k with
 | zero =>
  intro u hu
  obtain rfl:=List.eq_nil_of_length_eq_zero hu
  exact hx
 | succ k ih =>
  intro u hu
  have hne:u≠[]:=fun e=>by rw [e] at hu;simp at hu
  obtain ⟨w,t,rfl⟩:∃w t,u=w++[t]:=⟨u.dropLast,u.getLast hne,(List.dropLast_concat_getLast hne).symm⟩
  obtain ⟨g1,g2⟩:=ih w (by simpa using hu)
  have e:(w++[t]).foldl δ x=δ (w.foldl δ x) t:=by simp
  rw [e]
  refine ⟨(hδ _ _).1,fun i hi=>?_⟩
  rw [(hδ _ _).2 i hi,List.map_append,List.map_cons,List.map_nil]
  constructor
  ·rintro ⟨a,ha,v,h1,h2,h3⟩
   obtain ⟨b1,b2⟩:=hk a ha
   obtain ⟨v1,h4⟩:=(g2 a.f.toNat (by omega)).1 h2
   rw [show ((a.f.toNat:Nat):Int)=a.f by omega] at h4
   have h5:=(h4.snoc ha rfl).append h3
   rw [sy,if_neg (by omega),h1,List.append_nil] at h5
   exact ⟨_,h5⟩
  ·rintro ⟨v,h⟩
   obtain ⟨a,v1,v2,ha,h1,h2,h3⟩:=h.last rfl
   obtain ⟨b1,b2⟩:=hk a ha
   refine ⟨a,ha,v2,h1,(g2 a.f.toNat (by omega)).2 ⟨v1,?_⟩,h3⟩
   rw [show ((a.f.toNat:Nat):Int)=a.f by omega]
   exact h2
def kw (fin b:List Bool):Bool:=(List.range fin.length).any fun i=>b.getD i false&&fin.getD i false
theorem Vp {u:List Nat} (hk:∀a∈al,0<=a.f/\a.f<fin.length/\0<=a.t/\a.t<fin.length) (hδ:SpD al fin.length δ) (hx:SpS al fin.length x):kw fin (u.foldl δ x)=true <-> ∃v,Out fin al (u.map fun t:Nat=>(t:Int)) v:=by
 obtain ⟨_,g2⟩:=ZC (fun a ha=>⟨(hk a ha).1,(hk a ha).2.1⟩) hδ hx _ u rfl
 simp only [kw,List.any_eq_true,List.mem_range,Bool.and_eq_true]
 constructor
 ·rintro ⟨i,hi,h1,h2⟩
  obtain ⟨v,hv⟩:=(g2 i hi).1 h1
  exact ⟨v,out_tr.2 ⟨i,hv,by omega,by simpa using h2⟩⟩
 ·rintro ⟨v,hv⟩
  obtain ⟨p,h1,h2,h3⟩:=out_tr.1 hv
  have hp:p.toNat<fin.length:=by
   rcases Nat.lt_or_ge p.toNat fin.length with h|h
   ·exact h
   ·rw [List.getD_eq_getElem?_getD,List.getElem?_eq_none h] at h3;cases h3
  refine ⟨p.toNat,hp,(g2 _ hp).2 ⟨v,?_⟩,h3⟩
  rw [show ((p.toNat:Nat):Int)=p by omega];exact h1
def DomR (fin:List Bool) (al:List A) (sz:Nat) (rows:List (List Nat)) (fn:List Bool):Prop :=
 ∃δ x N,SpD al fin.length δ/\SpS al fin.length x/\Done δ sz x N/\MinOf (fun i=>(aK δ sz x N).2.getD i []) (fun i=>((aK δ sz x N).1.map (kw fin)).getD i false) N sz rows fn
theorem DomR.unique {rows rows':List (List Nat)} {fn fn':List Bool} (h:DomR fin al sz rows fn) (h':DomR fin al sz rows' fn'):rows'=rows/\fn'=fn:=by
 obtain ⟨δ,x,N,h1,h2,h3,h4⟩:=h
 obtain ⟨δ',x',N',g1,g2,g3,g4⟩:=h'
 obtain rfl:=h1.unique g1
 obtain rfl:=h2.unique g2
 obtain rfl:=h3.unique g3
 exact h4.unique g4
theorem LC {N:Nat} (h:Done δ sz x N):Ok (fun i=>(aK δ sz x N).2.getD i []) N sz:=by
 have hl:(aK δ sz x N).2.length=N:=gG N
 have row:∀i,i<N->∃y,(aK δ sz x N).2.getD i []=(scan δ y (aK δ sz x i).1 sz).2:=fun i hi=>by
  obtain ⟨r,q,_,e2⟩:=sW (δ:=δ) (sz:=sz) (a:=x) (i:=i+1) (j:=N) (by omega)
  have e3:(aK δ sz x (i+1)).2=(aK δ sz x i).2++[(scan δ ((aK δ sz x i).1.getD i default) (aK δ sz x i).1 sz).2]:=rfl
  refine ⟨(aK δ sz x i).1.getD i default,?_⟩
  rw [List.getD_eq_getElem?_getD,e2,e3,List.getElem?_append_left (by simp [gG]),List.getElem?_append_right (by simp [gG]),gG];simp
 refine ⟨h.pos,fun i hi=>?_,fun i hi y hy=>?_⟩
 ·obtain ⟨y,e⟩:=row i hi
  simp only [e];exact kX _
 ·obtain ⟨z,e⟩:=row i hi
  obtain ⟨t,ht,rfl⟩:=List.getElem_of_mem hy
  have ht2:t<sz:=by
   have:=kX (δ:=δ) (a:=z) (L:=(aK δ sz x i).1) sz
   simp only [e] at ht;omega
  obtain ⟨y,row,k,_,e2,e3,e4,e5⟩:=h.row hi ht2
  have hk:=(List.getElem?_eq_some_iff.1 e5).1
  rw [h.1] at hk
  have e6:(aK δ sz x N).2.getD i []=row:=by rw [List.getD_eq_getElem?_getD,e2];rfl
  have e7:((aK δ sz x N).2.getD i [])[t]?=some k:=by rw [e6];exact e4
  rw [List.getElem?_eq_getElem ht] at e7
  rw [Option.some.inj e7];exact hk
theorem abo {N:Nat} (h:Done δ sz x N):∀ (k:Nat) (u:List Nat),u.length=k->(∀t∈u,t<sz)->(aK δ sz x N).1[MF (fun i=>(aK δ sz x N).2.getD i []) 0 u]?=some (u.foldl δ x):=by
 intro k
 induction k with
 | zero =>
  intro u hu _
  obtain rfl:=List.eq_nil_of_length_eq_zero hu
  exact h.first
 | succ k ih =>
  intro u hu ha
  have hne:u≠[]:=fun e=>by rw [e] at hu;simp at hu
  obtain ⟨w,t,rfl⟩:∃w t,u=w++[t]:=⟨u.dropLast,u.getLast hne,(List.dropLast_concat_getLast hne).symm⟩
  have g:=ih w (by simpa using hu) fun y hy=>ha y (by simp [hy])
  have hi:=(List.getElem?_eq_some_iff.1 g).1
  rw [h.1] at hi
  obtain ⟨y,row,q,e1,e2,e3,e4,e5⟩:=h.row hi (ha t (by simp))
  rw [g] at e1
  rw [CX,List.getD_eq_getElem?_getD (l:=(aK δ sz x N).2),e2,Option.getD_some,List.getD_eq_getElem?_getD,e4,Option.getD_some,e5,<- Option.some.inj e1]
  simp
theorem DomR.lang {rows:List (List Nat)} {fn:List Bool} (hk:∀a∈al,0<=a.f/\a.f<fin.length/\0<=a.t/\a.t<fin.length) (h:DomR fin al sz rows fn) {u:List Nat} (hu:∀t∈u,t<sz):Yg rows 0 u<rows.length/\(fn.getD (Yg rows 0 u) false=true <-> ∃v,Out fin al (u.map fun t:Nat=>(t:Int)) v):=by
 obtain ⟨δ,x,N,h1,h2,h3,h4⟩:=h
 obtain ⟨g1,g2⟩:=h4.lang (LC h3) hu
 refine ⟨g1,?_⟩
 rw [g2,List.getD_eq_getElem?_getD,List.getElem?_map,abo h3 _ u rfl hu,Option.map_some,Option.getD_some]
 exact Vp hk h1 h2
def enc (b:List Bool):Nat:=b.foldl (fun k t=>2*k+if t then 1 else 0) 0
theorem F7 (b:List Bool) (t:Bool):enc (b++[t])=2*enc b+if t then 1 else 0:=by simp [enc]
theorem Y2:∀ (n:Nat) (b c:List Bool),b.length=n->c.length=n->enc b=enc c->b=c:=by
 intro n
 induction n with
 | zero=>intro b c hb hc _;rw [List.eq_nil_of_length_eq_zero hb,List.eq_nil_of_length_eq_zero hc]
 | succ n ih =>
  intro b c hb hc e
  have h1:b≠[]:=fun e=>by rw [e] at hb;simp at hb
  have h2:c≠[]:=fun e=>by rw [e] at hc;simp at hc
  rw [<- List.dropLast_concat_getLast h1,<- List.dropLast_concat_getLast h2] at e ⊢
  rw [F7,F7] at e
  have e3:b.getLast h1=c.getLast h2/\enc b.dropLast=enc c.dropLast:=by
   generalize b.getLast h1=x at e ⊢
   generalize c.getLast h2=y at e ⊢
   cases x<;>cases y<;>simp only [if_true,if_false,Bool.false_eq_true,reduceCtorEq,false_and,true_and] at e ⊢<;>omega
  rw [e3.1,ih b.dropLast c.dropLast (by simp [hb]) (by simp [hc]) e3.2]
theorem abe:∀ (n:Nat) (b:List Bool),b.length=n->enc b<2 ^ n:=by
 intro n
 induction n with
 | zero=>intro b hb;rw [List.eq_nil_of_length_eq_zero hb];simp [enc]
 | succ n ih =>
  intro b hb
  have h1:b≠[]:=fun e=>by rw [e] at hb;simp at hb
  rw [<- List.dropLast_concat_getLast h1,F7]
  have:=ih b.dropLast (by simp [hb])
  rw [Nat.pow_succ]
  split<;>omega
theorem Af:∀ (n:Nat) (l:List Nat),l.Nodup->(∀x∈l,x<n)->l.length<=n:=by
 intro n
 induction n with
 | zero =>
  intro l _ hx
  cases l with
  | nil=>simp
  | cons a l=>exact absurd (hx a (by simp)) (by omega)
 | succ n ih =>
  intro l hn hx
  have h1:=ih (l.erase n) (hn.erase n) fun x hx'=>by
   have h2:=(hn.mem_erase_iff).1 hx'
   have:=hx x h2.2
   have:=h2.1
   omega
  by_cases hm:n∈l
  ·rw [List.length_erase_of_mem hm] at h1;omega
  ·rw [List.erase_of_not_mem hm] at h1;omega
theorem Ko {L:List (List Bool)} (hn:L.Nodup) (hl:∀b∈L,b.length=n):L.length<=2 ^ n:=by
 have h:=Af (2 ^ n) (L.map enc) ?_ ?_
 ·simpa using h
 ·rw [List.nodup_iff_pairwise_ne,List.pairwise_map]
  refine List.Pairwise.imp_of_mem (fun {a b} ha hb hab e=>hab (Y2 n a b (hl a ha) (hl b hb) e)) (List.nodup_iff_pairwise_ne.1 hn)
 ·intro y hy
  obtain ⟨b,hb,rfl⟩:=List.mem_map.1 hy
  exact abe n b (hl b hb)
end
end Go.FS
end
section
namespace Go.Proofs.Ytlbdmpjnmfmnfaa
open Go.RowKit Go.HL Go.FS
theorem YS (l:List Int) (hl:l.length<=9223372036854775807) (hr:∀k,k<l.length -> -9223372036854775808<=l.getD k 0/\l.getD k 0<=9223372036854775807):HT Try.prog 11 [I l] (fun r=>∃fin al,r=.agg (dR fin al)/\1<=fin.length/\fin.length<=5/\al.length<=9/\okF fin al=true):=by
 refine HT.ofC rfl aei [2] rfl (bF rfl) ?_
 unfold c11
 simp only [I,ay,Nat.reduceAdd]
 refine zF ⟨?_⟩
 refine aX aG bz (LU l 0 5 (by omega) (by omega) (by omega) hl hr) ?_
 rintro _ ⟨n,rfl,hn⟩
 refine zG ⟨?_⟩
 refine zF ⟨?_⟩
 refine dZ 96 [1,4] [0,2,3,4,5] (⟨[(0,.sl l.length (HL.ints l)),(2,.pref 0 [] 0),(3,.int .i64 (1+(n:Int))),(4,.pref 1 [] 0),(5,.int .i64 0)],[(0,.optr [.nils,.nils]),(1,.optr [.osl 1 0 [],.osl 4 0 []])],2⟩:St) rfl rfl ?_
 refine aF [0,2,3,4,5] (fun fb:List Bool=>fb.length<=n+1)
  (fun fb=>⟨[(0,.sl l.length (HL.ints l)),(2,.pref 0 [] 0),(3,.int .i64 (1+(n:Int))),(4,.pref 1 [] 0),(5,.int .i64 fb.length)],[(0,.optr [.nils,.nils]),(1,.optr [.osl 1 fb.length (HL.bools fb),.osl 4 0 []])],2⟩) (fun fb=>n+1 - fb.length) [] (by simp) rfl ?_
 intro fb hfb
 by_cases hk:fb.length<n+1
 ·have hat:=LU l (1+fb.length) 3 (by omega) (by omega) (by omega) hl hr
  rw [show ((1+fb.length:Nat):Int)=1+(fb.length:Int) by omega] at hat
  have hsn:∀b:Bool,(fb++[b]).length=fb.length+1:=by simp
  refine zF ⟨?_⟩
  refine jR [] [] aA aA (fun _ _ r=>∃y:Nat,r=.int .i64 y/\y<3) (by simp) (by simp) ?_ (by rintro _ _ _ ⟨y,rfl,-⟩ fr;exact kJ)
  refine zF ⟨?_⟩
  refine fG aG bz hat ⟨.int .i64 (0:Nat),⟨0,rfl,by omega⟩,rfl⟩ ?_
  rintro _ ⟨x,rfl,hx3⟩ -
  refine zG ⟨?_⟩
  by_cases hx0:x=0
  ·subst hx0
   refine zF ⟨?_⟩
   exact aV [0,2,3,4,5] (fb++[true]) (by rw [hsn];omega) (by rw [hsn];omega) (by rw [hsn];rfl)
  ·refine zF ⟨?_⟩
   exact aV [0,2,3,4,5] (fb++[false]) (by rw [hsn];omega) (by rw [hsn];omega) (by rw [hsn];rfl)
 ·have hfn:fb.length=n+1:=by omega
  rw [hfn]
  refine zF ⟨?_⟩
  refine aX aG bz (LU l 6 10 (by omega) (by omega) (by omega) hl hr) ?_
  rintro _ ⟨m,rfl,hm⟩
  refine zG ⟨?_⟩
  refine zF ⟨?_⟩
  refine aF [0,2,3,4,6,7] (fun al:List A=>al.length<=m/\∀a∈al,okA (n+1) a=true)
   (fun al=>⟨[(0,.sl l.length (HL.ints l)),(2,.pref 0 [] 0),(3,.int .i64 (1+(n:Int))),(4,.pref 1 [] 0),(6,.int .i64 m),(7,.int .i64 al.length)],[(0,.optr [.nils,.nils]),(1,.optr [.osl 1 (n+1) (HL.bools fb),.osl 4 al.length (recs aC al)])],2⟩) (fun al=>m - al.length) [] ⟨by simp,by simp⟩ rfl ?_
  rintro al ⟨hal,hok⟩
  by_cases hk2:al.length<m
  ·have hat1:=LU l (7+2*al.length) 1048576 (by omega) (by omega) (by omega) hl hr
   have hat2:=LU l (8+2*al.length) 1048576 (by omega) (by omega) (by omega) hl hr
   rw [show ((7+2*al.length:Nat):Int)=7+2*(al.length:Int) by omega] at hat1
   rw [show ((8+2*al.length:Nat):Int)=8+2*(al.length:Int) by omega] at hat2
   have hsn:∀x:A,(al++[x]).length=al.length+1:=by simp
   refine zF ⟨?_⟩
   refine aX aG bz (hat1) ?_
   rintro _ ⟨x,rfl,hx⟩
   refine zG ⟨?_⟩
   refine zF ⟨?_⟩
   refine aX aG bz (hat2) ?_
   rintro _ ⟨y,rfl,hy⟩
   refine zG ⟨?_⟩
   have hsx:=H7 (x / 5) (by omega)
   have hsy:=H7 (y / 5) (by omega)
   have q1:(x:Int).tdiv 5=((x / 5:Nat):Int):=by rw [Int.tdiv_eq_ediv_of_nonneg (by omega)];omega
   have q2:(y:Int).tdiv 5=((y / 5:Nat):Int):=by rw [Int.tdiv_eq_ediv_of_nonneg (by omega)];omega
   refine zF ⟨?_⟩
   refine jR [3,8,9] [] aA aA (fun _ _ r=>∃y:Int,r=.int .i64 y /\ -1<=y/\y<=2) (by simp [au,HV.deep]) (by simp) ?_ (by rintro _ _ _ ⟨y,rfl,-⟩ fr;exact kJ)
   refine fP (zA @q1 @q2) ⟨?_⟩
   refine fG aG bz hsx ⟨.int .i64 0,⟨0,rfl,by omega,by omega⟩,rfl⟩ ?_
   rintro _ ⟨a1,rfl,ha1,ha2⟩ -
   refine zG ⟨?_⟩
   refine fP (zA @q1 @q2) ⟨?_⟩
   refine fG aG bz hsy ⟨.int .i64 0,⟨0,rfl,by omega,by omega⟩,rfl⟩ ?_
   rintro _ ⟨b1,rfl,hb1,hb2⟩ -
   refine zG ⟨?_⟩
   refine zF ⟨?_⟩
   exact aV [0,2,3,4,6,7] (al++[⟨(x:Int).tmod (1+(n:Int)),a1,b1,(y:Int).tmod (1+(n:Int))⟩]) ⟨by rw [hsn];omega,fun a ha=>by
    rcases zl002.1 ha with ha|ha
    ·exact hok a ha
    ·simp only [zl009] at ha
     subst ha
     have t1:=Int.tmod_nonneg (1+(n:Int)) (show (0:Int)<=x by omega)
     have t2:=Int.tmod_nonneg (1+(n:Int)) (show (0:Int)<=y by omega)
     have t3:=Int.tmod_lt_of_pos (x:Int) (show (0:Int)<1+n by omega)
     have t4:=Int.tmod_lt_of_pos (y:Int) (show (0:Int)<1+n by omega)
     exact okA_iff.2 ⟨t1,by simp only;omega,t2,by simp only;omega,ha1,by simp only;omega,hb1,by simp only;omega⟩⟩ (by rw [hsn];omega) (by rw [hsn];rfl)
  ·obtain rfl:al.length=m:=by omega
   refine aP 1 [2,4,6,7] ⟨[(2,.pref 0 [] 0),(4,.ptr (stripL [.osl 1 (n+1) (HL.bools fb),.osl 4 al.length (recs aC al)]) 0),(6,.int .i64 al.length),(7,.int .i64 al.length)],[(0,.optr [.nils,.nils])],1⟩ rfl ?_
   rw [show stripL [.osl 1 (n+1) (HL.bools fb),.osl 4 al.length (recs aC al)]=[.sl (n+1) (HL.bools fb),.sl al.length (recs aC al)] by simp [stripL,HV.strip,HL.bools_strip,jO]]
   refine zF ⟨?_⟩
   refine ae ?_
   exact ⟨_,_,rfl,rfl,fb,al,by rw [dR,fU,hfn];rfl,by omega,by omega,by omega,by
    simp only [okF,aZ,decide_eq_true_eq,zl016]
    rw [hfn]
    exact ⟨⟨by omega,by omega,by omega⟩,hok⟩⟩
theorem G7 (l:List (List Int)) (u:List Int) {n:Nat} (h:n=u.length):iO l++[.osl 1 n (HL.ints u)]=iO (l++[u]):=by subst h;simp [iO]
end Go.Proofs.Ytlbdmpjnmfmnfaa
end
section
namespace Go.HL
open Go.RowKit
section
variable {P:Program} {k:List HI} {Q:HE->St->Prop} {s:St} {all r:List HOper} {i:Nat} {d:Option Nat}
theorem TD {D:FuncId->List HV->HV->Prop} {x:HX} {f:FuncId} {cap:List HV} (hf:ev s.sl x=.fn f cap) {xs:List HX} (hC:HT P f (cZ bM s.M (xs.map (ev s.sl)++cap)) (D f (cZ bM s.M (xs.map (ev s.sl)++cap)))) (hex:∃r,D f (cZ bM s.M (xs.map (ev s.sl)++cap)) r/\r.deep=[])
  (h:∀v,D f (cZ bM s.M (xs.map (ev s.sl)++cap)) v->v.deep=[]->(aO (xs.map (ev s.sl)++cap) || v.noRd)=true/\(unpack (s.nx+stride*i) v).2.2<=s.nx+stride*(i+1)/\hx P (.o (CS P D) all r (i+1)::k) Q ((s.upd (unpack (s.nx+stride*i) v).2.1).put d (unpack (s.nx+stride*i) v).1)) :
  hx P (.o (CS P D) all (⟨d,.callv x xs,none⟩::r) i::k) Q s:=by
 unfold hx hk hops
 simp only
 refine Or.inl ?_
 simp only [hop0,HOp.map,hf]
 refine ⟨hC,hex,fun v hv hd=>?_⟩
 have h1:=h v hv hd
 unfold hx hk at h1
 exact h1
end
section
variable {P:Program} {all r:List HOper} {i:Nat} {k:List HI} {rs:List Nat} {K:HV->Prop} {sl st:List (Nat×HV)} {nx:Nat} {d:Option Nat} {x:HX}
theorem WR {D:FuncId->List HV->HV->Prop} [ok:Ok (CS P D) k] {f:FuncId} {xs:List HX} {cap vs args:List HV} (hx:ev sl x=.fn f cap) (hvs:xs.map (ev sl)=vs) (ha:cZ bM (fun j=>au j st) (vs++cap)=args) (hC:HT P f args (D f args)) (hex:∃r,D f args r/\r.deep=[])
  (h:∀v,D f args v->v.deep=[]->(aO (vs++cap) || v.noRd)=true/\∃v' us n2 sl' st',unpack (nx+stride*i) v=(v',us,n2)/\n2<=nx+stride*(i+1)/\Ae d v' (tV sl st us)=(sl',st')/\G P (CS P D) all r (i+1) k rs K sl' st' nx) :
  G P (CS P D) all (⟨d,.callv x xs,none⟩::r) i k rs K sl st nx:=by
 subst hvs ha
 refine TD hx hC hex ?_
 intro v hv hd
 obtain ⟨h1,v',us,n2,sl',st',h2,h3,h4,h5⟩:=h v hv hd
 rw [h2]
 exact ⟨h1,h3,lS ok.mono ok.plain (mW h4) h5⟩
end
theorem HT.frz {P:Program} {f:FuncId} {args:List HV} {K:HV->Prop} (h:HT P f args K):HT P f args (fun r=>∃r0,K r0/\r=r0.strip):=by
 refine ⟨h.1,fun w rargs F hF ho=>(h.2 w rargs F hF ho).mono ?_⟩
 rintro e w' ⟨rv,res,fs,he,hk,how,hnd,hfs,hb⟩
 have hlt:=how.lt
 refine ⟨rv,res.strip,[],he,⟨res,hk,rfl⟩,?_,.nil,by simp,hb⟩
 have:=how.strip (F':=fun b=>F b\/(w.heap.size<=b/\b<w'.heap.size/\b ∉ ([]:List Nat))) (fun _ _ h=>h) (fun b hb=>.inr ⟨hfs b hb,hlt b hb,by simp⟩) (fun b hb=>by
  rcases hb with hb|hb
  ·exact .inl hb
  ·exact .inr ⟨hb.1,hb.2.1,by simp⟩)
 simpa [stripL] using this
end Go.HL
end
