import Derived.Test.YtjlidhijnohkbaaGpP
import Derived.Test.YtjlidhijnohkbaaGpD
import Derived.Test.YtjlidhijnohkbaaGrNumP
import Derived.Test.YtjlidhijnohkbaaGrWits
set_option linter.unusedSimpArgs false
set_option linter.unusedVariables false
namespace Go.Proofs.Ytjlidhijnohkbaa
open Go.RowKit Go.HL Go.BF
def Ba (nd:List (List Nat)) (k:Nat):List Nat:=turnRow nd.length ((nd.getD k []).filter fun y=>decide (y<k))
def AZ (nd:List (List Nat)) (i:Nat):List (List Nat):=(List.range i).map fun j=>Ba nd (nd.length - 1 - j)
theorem oD (nd:List (List Nat)) (i:Nat):(AZ nd i).length=i:=by simp [AZ]
theorem Lj (nd:List (List Nat)) (i:Nat):AZ nd i++[Ba nd (nd.length - 1 - i)]=AZ nd (i+1):=by simp [AZ,List.range_succ]
theorem DX {nd:List (List Nat)} {i m:Nat} (h:i<m):(AZ nd m).getD i []=Ba nd (nd.length - 1 - i):=by simp [AZ,h]
theorem ND {row:List Nat} {j k:Nat} (h:j<row.length):(row.take (j+1)).filter (fun y=>decide (y<k))=if row.getD j 0<k then (row.take j).filter (fun y=>decide (y<k))++[row.getD j 0] else (row.take j).filter (fun y=>decide (y<k)):=by
 rw [List.take_add_one,dS h,List.filter_append,dW,dS h]
 simp only [Option.toList_some,gV]
 by_cases e:row[j]<k
 ·rw [if_pos e];simp [e]
 ·rw [if_neg e];simp [e]
section
variable {nd:List (List Nat)} {bad:List Bool}
theorem Iw {i j:Nat} (h:j∈(AZ nd nd.length).getD i []):i<j/\j<nd.length:=by
 rcases dL i nd.length with hi|hi
 ·rw [DX hi] at h
  obtain ⟨y,hy,rfl⟩:=(EX _ _ _).1 h
  have:=(zl094.1 hy).2
  simp only [decide_eq_true_eq] at this
  omega
 ·rw [dW,jb (by rw [oD];exact hi)] at h;cases h
theorem Sm (g:Gr nd bad):Gr (AZ nd nd.length) bad:=by
 refine ⟨by rw [oD];exact g.size,by rw [oD];exact g.bads,fun i j h=>by rw [oD];exact (Iw h).2,fun i=>?_⟩
 rcases dL i nd.length with hi|hi
 ·rw [DX hi];exact qI _ _
 ·rw [dW,jb (by rw [oD];exact hi)];exact List.Pairwise.nil
theorem Nl (h3:∀i,(nd.getD i []).length<=3) (i:Nat):((AZ nd nd.length).getD i []).length<=3:=by
 rcases dL i nd.length with hi|hi
 ·rw [DX hi]
  have h1:=xU nd.length ((nd.getD (nd.length - 1 - i) []).filter fun y=>decide (y<nd.length - 1 - i))
  have h2:=List.length_filter_le (fun y=>decide (y<nd.length - 1 - i)) (nd.getD (nd.length - 1 - i) [])
  have h4:=h3 (nd.length - 1 - i)
  unfold Ba;omega
 ·rw [dW,jb (by rw [oD];exact hi)];exact gX _
theorem Ru (h3:∀i,(nd.getD i []).length<=3):Up (AZ nd nd.length) :=
 ⟨fun i j h=>by rw [oD];exact Iw h,fun i=>by have:=Nl h3 i;omega⟩
theorem KO (up:Up nd) {n:Nat} {c:Nat->Nat} (h:IsCirc nd bad n c):False:=by
 have key:∀k,c 0+k<=c k:=by
  intro k
  induction k with
  | zero=>exact aP _
  | succ k ih=>have:=(up.lt _ _ (h.edge k)).1;omega
 have h1:=key n
 have h2:=h.back 0
 have h3:=h.pos
 rw [Nat.zero_add] at h2
 omega
def Jd (nd:List (List Nat)) (bad:List Bool) (i k:Nat):List Nat:=(List.range 4).map fun s=>if s<k then mJ nd bad i s else nd.length
def NW (nd:List (List Nat)) (bad:List Bool) (i:Nat):List Nat:=(List.range 4).map fun s=>mJ nd bad i s
theorem IQ (i:Nat):(NW nd bad i).length=4:=by simp [NW]
theorem OL {i k:Nat} (hi:i<nd.length) (hb:bad.getD i false=false) (hk:k<(nd.getD i []).length) (h4:k<4):(Jd nd bad i k).set k ((nd.getD i []).getD k 0)=Jd nd bad i (k+1):=by
 have e:mJ nd bad i k=(nd.getD i []).getD k 0:=by unfold mJ;rw [if_pos ⟨hi,hb,hk,h4⟩]
 rw [<- e]
 apply BK
 ·simp [Jd]
 ·intro t h1 h2
  simp only [Jd,List.getElem_set,Gh,EF]
  by_cases a:k=t
  ·subst a;simp
  ·rw [if_neg a]
   have:(t<k)=(t<k+1):=by simp only [eq_iff_iff];omega
   simp only [this]
theorem Oh {i k:Nat} (h:¬ (i<nd.length/\bad.getD i false=false/\k<(nd.getD i []).length/\k<4)) (hk:k<=4):Jd nd bad i k=NW nd bad i:=by
 unfold Jd NW
 apply BJ
 intro s hs
 have hs4:=zl034.1 hs
 by_cases a:s<k
 ·rw [if_pos a]
 ·rw [if_neg a]
  unfold mJ
  rw [if_neg]
  rintro ⟨h1,h2,h3,h4⟩
  exact h ⟨h1,h2,by omega,by omega⟩
def wo (nd:List (List Nat)) (bad:List Bool) (i:Nat):List (List Nat):=(List.range i).map (NW nd bad)
def xY (nd:List (List Nat)) (bad:List Bool) (i:Nat):List Bool:=(List.range i).map (yB nd bad)
theorem Eo (i:Nat):(wo nd bad i).length=i:=by simp [wo]
theorem Dy (i:Nat):(xY nd bad i).length=i:=by simp [xY]
theorem Nk (i:Nat):wo nd bad i++[NW nd bad i]=wo nd bad (i+1):=by simp [wo,List.range_succ]
theorem Me (i:Nat):xY nd bad i++[yB nd bad i]=xY nd bad (i+1):=by simp [xY,List.range_succ]
theorem Nb (g:Gr nd bad) (i s:Nat):mJ nd bad i s<=nd.length:=by
 unfold mJ
 split
 ·rename_i h
  exact Nat.le_of_lt (g.lt i _ (getD_mem _ _ 0 h.2.2.1))
 ·exact aP _
theorem Ie {i:Nat} (h:i<=nd.length):(wo nd bad (nd.length+1)).getD i []=NW nd bad i:=by simp [wo,show i<nd.length+1 by omega]
theorem SE (g:Gr nd bad):Au (nd.length+1) (wo nd bad (nd.length+1)) (xY nd bad (nd.length+1)):=by
 have:=g.size
 refine ⟨Eo _,Dy _,by omega,by omega,fun i hi=>by rw [Ie (by omega)];exact IQ i,fun i hi x hx=>?_⟩
 rw [Ie (by omega)] at hx
 obtain ⟨s,_,rfl⟩:=zl023.1 hx
 have:=Nb g i s
 omega
theorem PI {k s:Nat} (hk:k<=nd.length) (hs:s<4):JM (wo nd bad (nd.length+1)) k s=mJ nd bad k s:=by
 unfold JM
 rw [Ie hk]
 simp [NW,hs]
theorem QM {k:Nat} (hk:k<=nd.length):gd (xY nd bad (nd.length+1)) k=yB nd bad k:=by
 simp [gd,xY,show k<nd.length+1 by omega]
theorem MI (g:Gr nd bad):∀ (u:List Nat) (k:Nat),k<=nd.length->(∀t∈u,t<4)->run (JM (wo nd bad (nd.length+1))) k u=run (mJ nd bad) k u/\run (mJ nd bad) k u<=nd.length
 | [],k,hk,_=>⟨rfl,hk⟩
 | s::u,k,hk,h=>by
  rw [lm,lm,PI hk (h s (by simp))]
  exact MI g u _ (Nb g k s) fun t ht=>h t (by simp [ht])
theorem H9 (g:Gr nd bad) {u:List Nat} (h:∀t∈u,t<4):gd (xY nd bad (nd.length+1)) (run (JM (wo nd bad (nd.length+1))) 0 u)=yB nd bad (run (mJ nd bad) 0 u):=by
 obtain ⟨h1,h2⟩:=MI g u 0 (gX _) h
 rw [h1,QM h2]
theorem NR (g:Gr nd bad) {w:List Nat} (h:Least (JM (wo nd bad (nd.length+1))) 4 0 (gd (xY nd bad (nd.length+1))) w):Least (mJ nd bad) 4 0 (yB nd bad) w:=by
 obtain ⟨h1,h2,h3⟩:=h
 exact ⟨h1,by rw [<- H9 g h1];exact h2,fun u hu hg=>h3 u hu (by rw [H9 g hu];exact hg)⟩
theorem O1 (g:Gr nd bad) (h:None (JM (wo nd bad (nd.length+1))) 4 0 (gd (xY nd bad (nd.length+1)))):None (mJ nd bad) 4 0 (yB nd bad):=fun u hu=>by rw [<- H9 g hu];exact h u hu
theorem Lh (up:Up nd) (h0:0<nd.length) (q:Nat):lY nd bad (q+1) q [0]=match lw nd bad q 0 with|none=>[]|some w=>0::xG nd bad 0 w:=by
 have:=OQ (bad:=bad) up q [] 0 h0 (by simp)
 simp only [List.length_nil,Nat.zero_add,List.nil_append] at this
 rw [show q+1=1+q by omega]
 exact this
theorem LC (up:Up nd) (h0:0<nd.length) {w out:List Nat} (h:Least (mJ nd bad) 4 0 (yB nd bad) w) (hw:QD nd bad 0 out):out=0::xG nd bad 0 w:=by
 rcases hw with ⟨h1,_⟩|⟨i,e,_,h2⟩
 ·omega
 ·obtain rfl:i=0:=by omega
  obtain ⟨a1,a2,a3⟩:=Least.lw up h0 h
  refine (h2 _ (.inr ⟨w.length,by omega,?_,by simp,fun q hq=>?_⟩)).symm
  ·rw [Lh up h0,a1]
  ·rw [Lh up h0,a2 q hq]
theorem Lt (up:Up nd) (h0:0<nd.length) {out:List Nat} (h:None (mJ nd bad) 4 0 (yB nd bad)) (hw:QD nd bad 0 out):out=[]:=by
 rcases hw with ⟨_,h1⟩|⟨i,e,_,h2⟩
 ·exact h1
 ·obtain rfl:i=0:=by omega
  refine (h2 _ (.inl ⟨rfl,fun q _=>?_⟩)).symm
  rw [Lh up h0,None.lw up h0 h q]
theorem Fz:∀ (u:List Nat) (v s:Nat),xG nd bad v (u++[s])=xG nd bad v u++[mJ nd bad (run (mJ nd bad) v u) s]
 | [],v,s=>rfl
 | t::u,v,s=>by rw [List.cons_append,xG,Fz u,lm];rfl
theorem Ef:∀ (u:List Nat) (v:Nat),(xG nd bad v u).length=u.length
 | [],_=>rfl
 | t::u,v=>by rw [xG,List.length_cons,Ef u,List.length_cons]
theorem Gi:∀ (u:List Nat) (v:Nat),(v::xG nd bad v u).getD u.length 0=run (mJ nd bad) v u
 | [],_=>rfl
 | t::u,v=>by rw [xG,List.length_cons,List.getD_cons_succ,Gi u,lm]
theorem NG (up:Up nd):∀ (w:List Nat) (v:Nat),v<nd.length->yB nd bad (run (mJ nd bad) v w)=true->∀k,k<=w.length->run (mJ nd bad) v (w.take k)<nd.length/\(k<w.length->w.getD k 0<(nd.getD (run (mJ nd bad) v (w.take k)) []).length/\mJ nd bad (run (mJ nd bad) v (w.take k)) (w.getD k 0)=(nd.getD (run (mJ nd bad) v (w.take k)) []).getD (w.getD k 0) 0)
 | [],v,hv,_,k,hk=>by
  obtain rfl:k=0:=by simpa using hk
  exact ⟨hv,fun h=>absurd h (Nat.lt_irrefl _)⟩
 | s::w,v,hv,h,k,hk=>by
  obtain ⟨b1,b2,b3,b4,b5⟩:=vU up hv h
  cases k with
  | zero=>exact ⟨hv,fun _=>⟨b2,b3⟩⟩
  | succ k =>
   rw [lm] at h
   have:=NG up w _ b5 h k (by simpa using hk)
   simp only [List.take_succ_cons,lm,List.getD_cons_succ,List.length_cons]
   exact ⟨this.1,fun h2=>this.2 (by omega)⟩
end
end Go.Proofs.Ytjlidhijnohkbaa
