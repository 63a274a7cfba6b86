import Derived.Test.YtlbdmpjnmfmnfaaFs3
import Derived.Test.YtlbdmpjnmfmnfaaFsN
import Derived.Test.YtlbdmpjnmfmnfaaFsB
import Derived.Test.YtlbdmpjnmfmnfaaHlFi
import Derived.Test.YtlbdmpjnmfmnfaaHlLg
set_option linter.unusedSimpArgs false
set_option linter.unusedVariables false
set_option linter.unnecessarySimpa false
set_option maxHeartbeats 8000000
section
namespace Go.Proofs.Ytlbdmpjnmfmnfaa
open Go.RowKit Go.HL Go.FS
inductive Rn (nx:Nat->List Int) (L0:List Int):Nat->Prop
 | on {j:Int}:j∈L0->Rn nx L0 j.toNat
 | step {i:Nat} {j:Int}:Rn nx L0 i->j∈nx i->Rn nx L0 j.toNat
structure RB (nx:Nat->List Int) (L0:List Int) (n B:Nat) (rb:List Bool) (L:List Int):Prop where
 len:rb.length=n
 inr:∀j∈L,0<=j/\j<n
 snd1:∀i,rb.getD i false=true->Rn nx L0 i
 snd2:∀j∈L,Rn nx L0 j.toNat
 base:∀j∈L0,rb.getD j.toNat false=true\/j∈L
 cl:∀i,rb.getD i false=true->∀j∈nx i,rb.getD j.toNat false=true\/j∈L
 few:L.length+cf rb*B<=L0.length+n*B
section
variable {nx:Nat->List Int} {L0:List Int} {n B:Nat}
theorem Zc (n:Nat):cf (List.replicate n false)=n:=by simp [cf]
theorem RB.start (h:∀j∈L0,0<=j/\j<n):RB nx L0 n B (List.replicate n false) L0:=by
 have h0:∀i,(List.replicate n false).getD i false=false:=fun i=>by
  rw [bH,JK];split<;>rfl
 exact ⟨by simp,h,fun i hi=>(by rw [h0] at hi;cases hi),fun j hj=>.on hj,fun j hj=>.inr hj,fun i hi=>(by rw [h0] at hi;cases hi),by rw [Zc];exact bg _⟩
theorem RB.skip {rb:List Bool} {L:List Int} {j:Int} (h:RB nx L0 n B rb (L++[j])) (hj:rb.getD j.toNat false=true):RB nx L0 n B rb L:=by
 have hd:∀x,(rb.getD x.toNat false=true\/x∈L++[j])->rb.getD x.toNat false=true\/x∈L:=fun x hx=>by
  rcases hx with hx|hx
  ·exact .inl hx
  ·rcases zl003.1 hx with hx|hx
   ·exact .inr hx
   ·simp only [zl009] at hx;subst hx;exact .inl hj
 exact ⟨h.len,fun x hx=>h.inr x (by simp [hx]),h.snd1,fun x hx=>h.snd2 x (by simp [hx]),fun x hx=>hd x (h.base x hx),fun i hi x hx=>hd x (h.cl i hi x hx),by
  have:=h.few;rw [bD] at this;omega⟩
theorem QB {rb:List Bool} {i k:Nat} (hi:i<rb.length):(rb.set i true).getD k false=if i=k then true else rb.getD k false:=by
 rw [bH,vg]
 by_cases e:i=k
 ·subst e;simp [hi]
 ·simp [e]
theorem RB.add {rb:List Bool} {L:List Int} {j:Int} (h:RB nx L0 n B rb (L++[j])) (hj:rb.getD j.toNat false=false) (hin:∀x∈nx j.toNat,0<=x/\x<n) (hB:(nx j.toNat).length<=B):RB nx L0 n B (rb.set j.toNat true) (L++nx j.toNat):=by
 have hjn:=h.inr j (by simp)
 have hjl:j.toNat<rb.length:=by rw [h.len];omega
 have hg:=fun k=>QB (k:=k) hjl
 have hd:∀x,(rb.getD x.toNat false=true\/x∈L++[j])->(rb.set j.toNat true).getD x.toNat false=true\/x∈L++nx j.toNat:=fun x hx=>by
  rcases hx with hx|hx
  ·left;rw [hg];split;rfl;exact hx
  ·rcases zl003.1 hx with hx|hx
   ·exact .inr (by simp [hx])
   ·simp only [zl009] at hx;subst hx;left;rw [hg,if_pos rfl]
 have hc:=LP rb _ hjl hj
 refine ⟨by rw [List.length_set];exact h.len,fun x hx=>?_,fun i hi=>?_,fun x hx=>?_,fun x hx=>hd x (h.base x hx),fun i hi x hx=>?_,?_⟩
 ·rcases zl003.1 hx with hx|hx
  ·exact h.inr x (by simp [hx])
  ·exact hin x hx
 ·rw [hg] at hi
  by_cases e:j.toNat=i
  ·rw [<- e];exact h.snd2 j (by simp)
  ·rw [if_neg e] at hi;exact h.snd1 i hi
 ·rcases zl003.1 hx with hx|hx
  ·exact h.snd2 x (by simp [hx])
  ·exact .step (h.snd2 j (by simp)) hx
 ·rw [hg] at hi
  by_cases e:j.toNat=i
  ·subst e;exact .inr (by simp [hx])
  ·rw [if_neg e] at hi;exact hd x (h.cl i hi x hx)
 ·have:=h.few
  rw [bD] at this ⊢
  have e:cf rb*B=cf (rb.set j.toNat true)*B+B:=by rw [<- hc,lg,BV]
  simp only [List.length_cons,List.length_nil] at this
  omega
theorem RB.done {rb:List Bool} (h:RB nx L0 n B rb []) (i:Nat):rb.getD i false=true <-> Rn nx L0 i:=by
 refine ⟨h.snd1 i,fun hr=>?_⟩
 induction hr with
 | on hj=>rcases h.base _ hj with h|h;exact h;cases h
 | step _ hj ih=>rcases h.cl _ ih _ hj with h|h;exact h;cases h
end
theorem Q7 {l:List Int} {x:Int} {n:Nat} (h:n=l.length):(l++[x]).getD n 0=x:=by subst h;simp
theorem Oy (g:FuncId) (A0:List HV) (n B:Nat) (nx:Nat->List Int) (L0:List Int) (hn:n<=2048) (hB:∀i,i<n->(nx i).length<=B) (hBb:B<=200000) (hl0:L0.length<=200000) (hin:∀i,i<n->∀j∈nx i,0<=j/\j<n) (hL:∀j∈L0,0<=j/\j<n)
  (hg:∀i:Nat,i<n->HT Try.prog g [.int .i64 i,.ptr A0 0] (fun r=>r=.sl (nx i).length (HL.ints (nx i)))) :
  HTM Try.prog 68 [.int .i64 n,.osl 1 L0.length (HL.ints L0),.fn g [.ptr A0 0]] (fun r=>∃rb,r=.osl 1 n (HL.bools rb)/\rb.length=n/\∀i,rb.getD i false=true <-> Rn nx L0 i):=by
 refine HTM.of rfl afR (aZ rfl) (⟨[(0,.int .i64 n),(1,.ref 0 [] 1 0 L0.length),(2,.fn g [.ptr A0 0])],[(0,.osl 1 L0.length (HL.ints L0))],1⟩:St) rfl ?_
 unfold c68
 refine zF ⟨?_⟩
 refine aI [1,2,7] (fun s:List Bool×List Int=>RB nx L0 n B s.1 s.2)
  (fun s=>⟨[(1,.ref 0 [] 1 0 s.2.length),(2,.fn g [.ptr A0 0]),(7,.ref 1 [] 1 0 n)],[(0,.osl 1 s.2.length (HL.ints s.2)),(1,.osl 1 n (HL.bools s.1))],2⟩)
  (fun s=>cf s.1*(B+1)+s.2.length) (List.replicate n false,L0) (.start hL) rfl ?_
 rintro ⟨rb,L⟩ hI
 simp only at hI ⊢
 have hrl:=hI.len
 have hfw:=hI.few
 have hnB:n*B<=2048*200000:=tK hn hBb
 rcases List.eq_nil_or_concat L with rfl|⟨L',j,rfl⟩
 ·refine zF ⟨?_⟩
  refine ae ?_
  exact ⟨rb,rfl,hrl,hI.done⟩
 ·rw [List.concat_eq_append] at hI hfw ⊢
  have hsn:(L'++[j]).length=L'.length+1:=by simp
  have hgv:(L'++[j]).getD L'.length 0=j:=Q7 rfl
  have hz:(((L'.length+1:Nat):Int) - 1).toNat=L'.length:=by omega
  have hjr:=hI.inr j (by simp)
  rw [hsn] at hfw ⊢
  have htk:(HL.ints (L'++[j])).take (L'.length*1)=HL.ints L':=by
   rw [Nat.mul_one]
   simp [HL.ints]
  have hgj:=hg j.toNat (by omega)
  rw [Int.toNat_of_nonneg hjr.1] at hgj
  have hnl:=hB j.toNat (by omega)
  have hni:=hin j.toNat (by omega)
  have hjl:j.toNat<rb.length:=by omega
  refine eH (zA @hz @hgv) ⟨?_⟩
  refine Bh 1 [1,2,7,8,29] ⟨[(1,.ref 0 [] 1 0 L'.length),(2,.fn g [.ptr A0 0]),(7,.ref 1 [] 1 0 n),(8,.int .i64 j),(29,.bool (!rb.getD j.toNat false))],[(0,.osl 1 L'.length (HL.ints L')),(1,.osl 1 n (HL.bools rb))],2⟩ rfl rfl (by omega) (HL.ints_flat _) (by decide) (by rw [hz,htk];rfl) ?_
  cases hb:rb.getD j.toNat false with
  | true =>
   simp only [Bool.not_true]
   refine zF ⟨?_⟩
   exact aP [1,2,7] (rb,L') (hI.skip hb) dL rfl
  | false =>
   simp only [Bool.not_false]
   have hadd:=hI.add hb hni hnl
   have hcf:=LP rb _ hjl hb
   have hmu:cf rb*(B+1)=cf (rb.set j.toNat true)*(B+1)+(B+1):=by rw [<- hcf,lg,BV]
   refine zF ⟨?_⟩
   refine Fb (by rfl) ay aK (hgj) ?_
   rintro _ rfl
   refine zG ⟨?_⟩
   generalize nx j.toNat=R at hnl hadd
   have hsr:(L'++R).length=L'.length+R.length:=bD
   refine zF ⟨?_⟩
   exact aP [1,2,7] (rb.set j.toNat true,L'++R) hadd dL (by rw [hsr];rfl)
def cnt (k:Nat->Bool) (i:Nat):Nat:=((List.range i).filter k).length
section
variable {k:Nat->Bool} {n i:Nat} {fin:List Bool}
end
def iT (ll:List (List Int)):List HV:=ll.map fun l=>.sl l.length (HL.ints l)
def iO (ll:List (List Int)):List HV:=ll.map fun l=>.osl 1 l.length (HL.ints l)
theorem Qq (ll:List (List Int)):(iT ll).length=ll.length:=by simp [iT]
theorem AA (ll:List (List Int)):(iO ll).length=ll.length:=by simp [iO]
theorem Dp (ll:List (List Int)):stripL (iO ll)=iT ll:=by
 induction ll with
 | nil=>rfl
 | cons l ll ih=>simp only [iO,dV,stripL,HV.strip,HL.ints_strip,iT] at ih ⊢;rw [ih]
theorem yZ (ll:List (List Int)):stripL (iT ll)=iT ll:=by
 induction ll with
 | nil=>rfl
 | cons l ll ih=>simp only [iT,dV,stripL,HV.strip,HL.ints_strip] at ih ⊢;rw [ih]
theorem QJ (ll:List (List Int)) {i:Nat} (h:i<ll.length):(iT ll).getD i .dead=.sl (ll.getD i []).length (HL.ints (ll.getD i [])):=by simp [iT,h]
theorem GV (ll:List (List Int)) {i:Nat} (h:i<ll.length):(iO ll).getD i .dead=.osl 1 (ll.getD i []).length (HL.ints (ll.getD i [])):=by simp [iO,h]
theorem YF (ll:List (List Int)) (i:Nat) (l:List Int) (d:HV) {n:Nat} (hn:n=l.length):((iO ll).set i d).set i (.osl 1 n (HL.ints l))=iO (ll.set i l):=by subst hn;simp [iO,List.map_set]
theorem adL (n:Nat):(List.replicate n [HV.osl 1 0 []]).flatten=iO (List.replicate n []):=by
 induction n with
 | zero=>rfl
 | succ n ih=>rw [xB,Gz,ih];rfl
theorem zx (ll:List (List Int)):aO (iT ll)=[]:=by
 induction ll with
 | nil=>rfl
 | cons l ll ih=>simp only [iT,dV,aO,HV.deep,jL,List.nil_append] at ih ⊢;exact ih
attribute [go_sem] Qq AA Dp yZ QJ GV adL
def jI (p q:A->Int) (n:Nat) (l:List A):List (List Int):=(List.range n).map fun i:Nat=>(l.filter fun a=>p a==(i:Int)).map q
theorem Jc (p q:A->Int) (n:Nat) (l:List A):(jI p q n l).length=n:=by simp [jI]
theorem UQ (p q:A->Int) (n:Nat):jI p q n []=List.replicate n []:=by
 apply nN
 intro i
 simp only [jI,List.filter_nil,pY,jd,Nq,JK]
 split<;>simp_all
theorem D9 (p q:A->Int) {n i:Nat} (l:List A) (h:i<n):(jI p q n l).getD i []=(l.filter fun a=>p a==(i:Int)).map q:=by simp [jI,h]
theorem Jd {p q:A->Int} {n i:Nat} {l:List A}:((jI p q n l).getD i []).length<=l.length:=by
 by_cases h:i<n
 ·rw [D9 p q l h,List.length_map];exact List.length_filter_le _ _
 ·have:(jI p q n l).getD i []=[]:=by simp [jI,h]
  rw [this];exact tu _
theorem Qi {p q:A->Int} {n:Nat} {l:List A} {a:A} {j:Nat} (hj:p a=(j:Int)):(jI p q n l).set j ((jI p q n l).getD j []++[q a])=jI p q n (l++[a]):=by
 apply nN
 intro i
 rw [vg]
 by_cases hi:i<n
 ·by_cases e:j=i
  ·subst e
   rw [D9 p q l hi]
   simp [jI,hi,hj]
  ·have:¬ (j:Int)=(i:Int):=by omega
   simp [jI,hi,e,hj,this]
 ·simp [jI,hi]
  intro e;omega
theorem DX {p q:A->Int} {n i:Nat} {l:List A} {x:Int} (h:i<n):x∈(jI p q n l).getD i [] <-> ∃a∈l,p a=i/\q a=x:=by
 rw [D9 p q l h]
 simp only [zl031,zl042,beq_iff_eq]
 exact ⟨fun ⟨a,⟨h1,h2⟩,h3⟩=>⟨a,h1,h2,h3⟩,fun ⟨a,h1,h2,h3⟩=>⟨a,⟨h1,h2⟩,h3⟩⟩
theorem JG {L:Lk} {fr sz bytes id sz2 off n m n2 s2:Nat} {fl:Bool} {p:List Nat} {w:HV} {ws cs:List HV} {us:List Upd} {cond:Prop} (hn:dN L fl sz w=(m,ws,us,cond)) (hg:aB ((L.upd us) id) p=.osl s2 n2 cs):ak L fr (.app fl sz bytes (.ref id p sz2 off n) w) =
  (.ref fr [] sz 0 (n+m),us++[.put id (dI .dead ((L.upd us) id) p),.put fr (.osl sz (n+m) (win cs off (n*sz)++ws))],cond/\(n+m)*bytes<=140737488355328/\n+m<=maxLen/\sz2=sz/\off+n*sz<=cs.length):=by
 simp only [ak,hn,hg]
def mg (d:Int) (a:A):A:=⟨a.f+d,a.i,a.o,a.t+d⟩
def afu (d:Int):DS:=⟨fun _ args r=>∃x:Int,args=[.int .i64 x,.ptr [.int .i64 d] 0]/\r=.int .i64 (x+d),fun _=>false⟩
theorem aap {k:List HI} [hp:Plain k] {rs:List Nat} {Kp:HV->Prop} (R:List A) (d:Int) (a:A) (X:List HV) (m:Nat) (j:Int) (hR:R.length<=100000000) (hd:0<=d/\d<=1000000) (hf:0<=a.f/\a.f<=1000000) (ht:0<=a.t/\a.t<=1000000)
  {c:HCode} (h:hx Try.prog (.c c::k) (finish rs Kp) ⟨[(0,.ref 0 [] 4 0 (R.length+1)),(2,.fn 104 [.pref 1 [] 0]),(10,.sl m X),(11,.int .i64 m),(12,.int .i64 j)],[(0,.osl 4 (R.length+1) (recs aC (R++[mg d a]))),(1,.optr [.int .i64 d])],2⟩) :
  hx Try.prog (.c Wy::.b 1::.c c::k) (finish rs Kp) ⟨[(0,.ref 0 [] 4 0 R.length),(2,.fn 104 [.pref 1 [] 0]),(8,.pref 2 [] 0),(10,.sl m X),(11,.int .i64 m),(12,.int .i64 j)],[(0,.osl 4 R.length (recs aC R)),(1,.optr [.int .i64 d]),(2,.optr [.int .i64 a.f,.int .i64 a.i,.int .i64 a.o,.int .i64 a.t])],3⟩:=by
 unfold Wy
 refine ve (afu d) ah ?_
 refine dP (.ref 0 [] 4 0 R.length) _ rfl rfl (by trivial) rfl ah ?_
 refine dP (.fn 104 [.pref 1 [] 0]) _ rfl rfl (by trivial) rfl ah ?_
 refine dP (.pref 2 [] 0) _ rfl rfl (by trivial) rfl ah ?_
 refine dP (.int .i64 a.f) _ rfl rfl (aZ rfl) rfl ah ?_
 refine Rz (f:=104) (cap:=[.pref 1 [] 0]) (vs:=[.int .i64 a.f]) (args:=[.int .i64 a.f,.ptr [.int .i64 d] 0]) rfl rfl rfl ((MZ a.f d (by omega) (by omega) hd.1 hd.2).imp fun r h=>⟨_,rfl,h⟩) ⟨_,⟨_,rfl,rfl⟩,rfl⟩ rfl ?_
 rintro _ ⟨x,hx1,rfl⟩ -
 obtain rfl:x=a.f:=by simpa using hx1.symm
 refine ⟨by simp [HV.noRd],_,_,_,_,_,_,rfl,by simp [stride],rfl,by kernel_rfl,gY,?_⟩
 refine dP (.pref 2 [] 1) _ rfl rfl (by trivial) rfl ah ?_
 refine dP (.int .i64 a.i) _ rfl rfl (aZ rfl) rfl ah ?_
 refine dP (.pref 2 [] 2) _ rfl rfl (by trivial) rfl ah ?_
 refine dP (.int .i64 a.o) _ rfl rfl (aZ rfl) rfl ah ?_
 refine dP (.fn 104 [.pref 1 [] 0]) _ rfl rfl (by trivial) rfl ah ?_
 refine dP (.pref 2 [] 3) _ rfl rfl (by trivial) rfl ah ?_
 refine dP (.int .i64 a.t) _ rfl rfl (aZ rfl) rfl ah ?_
 refine Rz (f:=104) (cap:=[.pref 1 [] 0]) (vs:=[.int .i64 a.t]) (args:=[.int .i64 a.t,.ptr [.int .i64 d] 0]) rfl rfl rfl ((MZ a.t d (by omega) (by omega) hd.1 hd.2).imp fun r h=>⟨_,rfl,h⟩) ⟨_,⟨_,rfl,rfl⟩,rfl⟩ rfl ?_
 rintro _ ⟨x,hx1,rfl⟩ -
 obtain rfl:x=a.t:=by simpa using hx1.symm
 refine ⟨by simp [HV.noRd],_,_,_,_,_,_,rfl,by simp [stride],rfl,by kernel_rfl,gY,?_⟩
 refine dP (.agg [.int .i64 (a.f+d),.int .i64 a.i,.int .i64 a.o,.int .i64 (a.t+d)]) _ rfl rfl (by simp [pJ,setFrom,cellsOf,qF,ev,ax]) rfl ah ?_
 refine Bg (.ref 227 [] 4 0 1) [.put 227 (.osl 4 1 [.int .i64 (a.f+d),.int .i64 a.i,.int .i64 a.o,.int .i64 (a.t+d)])] rfl rfl rfl zV rfl rfl ah gY ?_
 refine Bg (side:=(4=4/\0+1*4<=4/\true=true)/\(R.length+1)*32<=140737488355328/\R.length+1<=maxLen/\4=4/\0+R.length*4<=(recs aC R).length) (.ref 243 [] 4 0 (R.length+1)) [.put 0 .dead,.put 243 (.osl 4 (R.length+1) (recs aC (R++[mg d a])))] rfl rfl ?_ ⟨⟨rfl,by omega,rfl⟩,by omega,by unfold maxLen;omega,rfl,by rw [yj];omega⟩ rfl rfl ah gY ?_
 ·have hw:win (recs aC R) 0 (R.length*4)++[HV.int .i64 (a.f+d),.int .i64 a.i,.int .i64 a.o,.int .i64 (a.t+d)]=recs aC (R++[mg d a]):=by
   rw [uV _ rfl,zJ];rfl
  show (HV.ref 243 [] 4 0 (R.length+1),[Upd.put 0 .dead,.put 243 (.osl 4 (R.length+1) (win (recs aC R) 0 (R.length*4)++[HV.int .i64 (a.f+d),.int .i64 a.i,.int .i64 a.o,.int .i64 (a.t+d)]))],(4=4/\0+1*4<=4/\true=true)/\(R.length+1)*32<=140737488355328/\R.length+1<=maxLen/\4=4/\0+R.length*4<=(recs aC R).length)=_
  rw [hw]
 refine dP (.ref 243 [] 4 0 (R.length+1)) _ rfl rfl (by trivial) rfl ah ?_
 refine JA rfl ?_
 refine BP ?_
 exact aY [0,2,10,11,12] _ rfl h
theorem O7 (R:List A) (d:Int) {l:List A} {i:Nat} (h:i<l.length):R++(l.take (i+1)).map (mg d)=(R++(l.take i).map (mg d))++[mg d (l.getD i default)]:=by
 rw [bK h];simp
theorem Yg (R:List A) (fin:List Bool) (al:List A) (d:Int) (hv:okF fin al=true) (hd:0<=d/\d<=1000000) (hR:R.length<=1000000) :
  HTM Try.prog 75 [.osl 4 R.length (recs aC R),.agg (dE fin al),.fn 104 [.optr [.int .i64 d]]] (fun r=>r=.osl 4 (R++al.map (mg d)).length (recs aC (R++al.map (mg d)))):=by
 refine HTM.of rfl afN (aZ rfl) (⟨[(0,.ref 0 [] 4 0 R.length),(1,.agg (dE fin al)),(2,.fn 104 [.pref 1 [] 0])],[(0,.osl 4 R.length (recs aC R)),(1,.optr [.int .i64 d])],2⟩:St) rfl ?_
 unfold c75
 obtain ⟨h1,h2,h3⟩:=bY hv
 have hin:=fun a (ha:a∈al)=>cu hv ha
 simp only [dE,fB]
 refine zF ⟨?_⟩
 refine aI [0,2,10,11,12] (fun i:Nat=>i<=al.length)
  (fun i=>⟨[(0,.ref 0 [] 4 0 (R++(al.take i).map (mg d)).length),(2,.fn 104 [.pref 1 [] 0]),(10,.sl al.length (recs aC al)),(11,.int .i64 al.length),(12,.int .i64 i)],[(0,.osl 4 (R++(al.take i).map (mg d)).length (recs aC (R++(al.take i).map (mg d)))),(1,.optr [.int .i64 d])],2⟩)
  (fun i=>al.length - i) 0 (by omega) (by simp;rfl) ?_
 intro i hi
 have hl:(R++(al.take i).map (mg d)).length<=R.length+i:=by rw [bD,List.length_map,dS];omega
 by_cases hil:i<al.length
 ·have hst:=O7 R d hil
  have hok:=hin (al.getD i default) (by rw [bH,bM hil];exact gy hil)
  generalize hQ:R++(al.take i).map (mg d)=Q at hst hl ⊢
  refine zF ⟨?_⟩
  refine aY [0,2,8,10,11,12] ⟨[(0,.ref 0 [] 4 0 Q.length),(2,.fn 104 [.pref 1 [] 0]),(8,.pref 2 [] 0),(10,.sl al.length (recs aC al)),(11,.int .i64 al.length),(12,.int .i64 i)],[(0,.osl 4 Q.length (recs aC Q)),(1,.optr [.int .i64 d]),(2,.optr [.int .i64 (al.getD i default).f,.int .i64 (al.getD i default).i,.int .i64 (al.getD i default).o,.int .i64 (al.getD i default).t])],3⟩ rfl ?_
  refine aap Q d (al.getD i default) (recs aC al) al.length i (by omega) hd (by omega) (by omega) ?_
  refine zF ⟨?_⟩
  refine aP [0,2,10,11,12] (i+1) hil (by omega) ?_
  rw [hst]
  simp only [bD,List.length_cons,List.length_nil,Nat.zero_add]
  rfl
 ·have e0:al.take i=al:=kD (by omega)
  rw [e0] at hl ⊢
  generalize R++al.map (mg d)=Q at hl ⊢
  refine zF ⟨?_⟩
  refine ae ?_
  rfl
end Go.Proofs.Ytlbdmpjnmfmnfaa
end
