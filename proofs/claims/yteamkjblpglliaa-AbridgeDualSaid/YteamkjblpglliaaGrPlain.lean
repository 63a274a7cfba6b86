import Derived.Test.YteamkjblpglliaaNet
import Derived.Test.YteamkjblpglliaaHl5
import Derived.Test.YteamkjblpglliaaCodes
section
set_option linter.unusedSimpArgs false
set_option linter.unusedVariables false
namespace Go.Proofs.Yteamkjblpglliaa
open Go.RowKit Go.SL Go.HL
section
variable {F:Nat->Prop} {h:Hp} {R:HV->Value->Prop}
theorem MH (l:List Int):OW F h R (HL.ints l) (ints l) []:=by
 induction l with
 | nil=>exact .nil
 | cons x r ih=>exact .int ih
theorem IR (l:List Bool):OW F h R (HL.bools l) (bools l) []:=by
 induction l with
 | nil=>exact .nil
 | cons x r ih=>exact .bool ih
theorem Om {l:List Int} {rvs fs} (o:OW F h R (HL.ints l) rvs fs):rvs=ints l:=by
 induction l generalizing rvs fs with
 | nil=>have:=o.length;exact List.eq_nil_of_length_eq_zero (by simpa [HL.ints] using this.symm)
 | cons x r ih =>
  cases o with
  | leaf h1=>cases h1
  | int t=>rw [ih t];rfl
theorem of_cons {v r rvs fs} (o:OW F h R (v::r) rvs fs):∃rv rr f1 f2,rvs=rv::rr/\fs=f1++f2/\OW F h R [v] [rv] f1/\OW F h R r rr f2:=by
 cases rvs with
 | nil=>exact absurd o.length (by simp)
 | cons rv rr=>obtain ⟨f1,f2,e,o1,o2⟩:=o.split1;exact ⟨rv,rr,f1,f2,rfl,e,o1,o2⟩
theorem gX {v r rvs} (o:OW F h R (v::r) rvs []):∃rv rr,rvs=rv::rr/\OW F h R [v] [rv] []/\OW F h R r rr []:=by
 obtain ⟨rv,rr,f1,f2,e,e2,o1,o2⟩:=of_cons o
 obtain ⟨rfl,rfl⟩:f1=[]/\f2=[]:=by simpa using e2.symm
 exact ⟨rv,rr,e,o1,o2⟩
theorem xg {rvs} (o:OW F h R [] rvs []):rvs=[]:=List.eq_nil_of_length_eq_zero o.length.symm
end
theorem D7 {F:Nat->Prop} {w:World} {n:Nat} {cs:List HV} {rv:Value} (hF:∀b,F b->b<w.heap.size) (o:OW F w.heap dN [.sl n cs] [rv] []):∃a cap vs,rv=.slice a n cap/\rd w a vs/\OW F w.heap dN cs vs []:=by
 rcases wJ o with ⟨rfl,rfl,a,cap,rfl⟩|⟨g,off,cap,cur,e,fr,rfl,hg,hb,_,ho⟩
 ·exact ⟨a,cap,[],rfl,.inl rfl,.nil⟩
 ·refine ⟨_,cap,_,rfl,.inr ⟨g,off,rfl,hF g hg,fun k u hu=>?_⟩,ho⟩
  simp only [World.cell?,hb]
  rw [List.getElem?_take] at hu
  split at hu
  ·rw [List.getElem?_drop] at hu
   simpa using hu
  ·cases hu
theorem OT {F:Nat->Prop} {w:World} {l:List Int} {rv:Value} (hF:∀b,F b->b<w.heap.size) (o:OW F w.heap dN [I l] [rv] []):∃a cap,rv=.slice a l.length cap/\rd w a (ints l):=by
 obtain ⟨a,cap,vs,rfl,h1,h2⟩:=D7 hF o
 rw [Om h2] at h1
 exact ⟨a,cap,rfl,h1⟩
section
variable {P:Program} {k:List HI} {Q:HE->St->Prop} {C:CallSpec} {all r:List aS} {i:Nat} {d:Option Nat} {sl sl' st st':List (Nat×HV)} {nx nx':Nat}
end
theorem fF (l:List Int) {n:Nat} (h:n=l.length):win (HL.ints l) 0 n=HL.ints l:=xh _ (by rw [ints_len];exact h)
theorem dJ (l:List Bool) {n:Nat} (h:n=l.length):win (HL.bools l) 0 n=HL.bools l:=xh _ (by rw [bools_len];exact h)
theorem BU (v:HV) (r:List HV):dA (v::r)=(iC v&&dA r):=rfl
theorem Eu:dA []=true:=rfl
theorem o8 (v:HV) (r:List HV):iT (v::r)=(cellV v&&iT r):=rfl
theorem rq:iT []=true:=rfl
theorem Ob (n:Nat):(List.replicate n [HV.int .i64 0]).flatten=HL.ints (List.replicate n 0):=by
 induction n with
 | zero=>rfl
 | succ n ih=>rw [List.replicate_succ,List.flatten_cons,ih];rfl
theorem Dz (n:Nat):(List.replicate n [HV.bool false]).flatten=HL.bools (List.replicate n false):=by
 induction n with
 | zero=>rfl
 | succ n ih=>rw [List.replicate_succ,List.flatten_cons,ih];rfl
theorem OM (off m:Nat):win [] off m=[]:=by unfold win;split<;>simp
theorem win_cons (a:HV) (r:List HV) (off m:Nat):win (a::r) off m=if off=0/\m=(a::r).length then a::r else ((a::r).drop off).take m:=rfl
def edges (l:List Edge):List HV:=l.flatMap fun e=>[.int .i64 e.f,.int .i64 e.t,.int .i64 e.c]
def Es (l:List Edge):HV:=.sl l.length (edges l)
section
variable {F:Nat->Prop} {h:Hp} {R:HV->Value->Prop}
theorem MG {l:List Edge} {rvs fs} (o:OW F h R (edges l) rvs fs):rvs=jS l:=by
 induction l generalizing rvs fs with
 | nil=>have:=o.length;exact List.eq_nil_of_length_eq_zero (by simpa [edges] using this.symm)
 | cons x r ih =>
  cases o with
  | leaf h1=>cases h1
  | int t =>
   cases t with
   | leaf h1=>cases h1
   | int t =>
    cases t with
    | leaf h1=>cases h1
    | int t=>rw [ih t];rfl
theorem uV {F:Nat->Prop} {w:World} {l:List Edge} {rv:Value} (hF:∀b,F b->b<w.heap.size) (o:OW F w.heap dN [Es l] [rv] []):∃a cap,rv=.slice a l.length cap/\rd w a (jS l):=by
 obtain ⟨a,cap,vs,rfl,h1,h2⟩:=D7 hF o
 rw [MG h2] at h1
 exact ⟨a,cap,rfl,h1⟩
end
def Gives (F:Nat->Prop) (w:World) (K:HV->Prop) (e:Ending) (w':World):Prop :=
 ∃rv res fs,e=.returned rv/\K res/\OW (fun b=>F b\/(w.heap.size<=b/\b<w'.heap.size/\b ∉ fs)) w'.heap dN [res] [rv] fs/\fs.Nodup/\(∀b∈fs,w.heap.size<=b)/\Below w.heap.size w w'
theorem H7 {w w':World} {e:TypeId} {sz off n:Nat} {v:Value} {xs:List Value} {cs:List HV} {i:Nat} {L:List jy} (hS:Sat w.heap.size w w' L) (hi:L[i]?=some (row e sz off v n xs))
  (hc:∀ (F:Nat->Prop) (h:Hp),OW F h dN cs xs []):∃fs,(∀F,OW F w'.heap dN [.osl sz n cs] [v] fs)/\fs.Nodup/\∀b∈fs,w.heap.size<=b:=by
 obtain ⟨c,hc'⟩:=hS.own
 have hr:=hc' i _ hi
 obtain ⟨hl,h⟩:=hr
 rcases h with ⟨a,rfl,rfl⟩|⟨g,cap,cur,rfl,hg,h1,h2,h3,h4⟩
 ·have hx:xs=[]:=List.eq_nil_of_length_eq_zero (by simpa using hl)
  have hcs:cs=[]:=List.eq_nil_of_length_eq_zero (by have:=(hc (fun _=>True) #[]).length;rw [hx] at this;simpa using this)
  subst hcs
  exact ⟨[],fun F=>.osl0 .nil,by simp,by simp⟩
 ·obtain ⟨_,hB,hh⟩:=kM hg
  have hcl:cs.length=n*sz:=(hc (fun _=>True) #[]).length.trans hl
  refine ⟨[g],fun F=>?_,by simp,by simpa using hB⟩
  have:=OW.osl (F:=F) (h:=w'.heap) (R:=dN) (n:=n) (sz:=sz) (cs:=cs) (rvs:=xs) (r:=[]) (rr:=[]) hh hcl (by rw [hcl];exact h4.symm) h3.symm h1 h2 (hc _ _) .nil
  simpa using this
theorem kJ (l:List Edge):edges l=trip (l.map fun e=>(e.f,e.t,e.c)):=by simp [edges,trip,List.flatMap_map]
theorem zL (l:List Edge):(edges l).length=l.length*3:=by rw [kJ,Kt];simp
theorem dS (l:List Edge):stripL (edges l)=edges l:=by rw [kJ,eu]
theorem GY (l:List Edge):ig (edges l)=true:=by rw [kJ,zK]
theorem kF (l:List Edge):dA (edges l)=true:=by rw [kJ,Jq]
theorem FT (l:List Edge):iT (edges l)=true:=by rw [kJ,JB]
theorem eG (l:List Edge) {n:Nat} (h:n=l.length*3):win (edges l) 0 n=edges l:=xh _ (by rw [zL];exact h)
theorem Jw (l m:List Edge):edges l++edges m=edges (l++m):=by simp [edges]
theorem Gg (l:List Edge) (x y z:Int):edges l++[.int .i64 x,.int .i64 y,.int .i64 z]=edges (l++[⟨x,y,z⟩]):=by simp [edges]
theorem Jl (l:List Edge) {i:Nat} (h:i<l.length):win (edges l) (i*3) 3=[.int .i64 (l.getD i default).f,.int .i64 (l.getD i default).t,.int .i64 (l.getD i default).c]:=by
 rw [kJ,MP _ (by simpa using h)]
 simp [h]
theorem vG (l:List Edge) {i:Nat} (h:i<l.length):(edges l).getD (i*3) .dead=.int .i64 (l.getD i default).f/\(edges l).getD (i*3+1) .dead=.int .i64 (l.getD i default).t/\(edges l).getD (i*3+2) .dead=.int .i64 (l.getD i default).c:=by
 induction l generalizing i with
 | nil=>simp at h
 | cons e r ih =>
  cases i with
  | zero=>exact ⟨rfl,rfl,rfl⟩
  | succ i =>
   obtain ⟨h1,h2,h3⟩:=ih (i:=i) (by simpa using h)
   have e0:(i+1)*3=i*3+1+1+1:=by omega
   have e1:(i+1)*3+1=(i*3+1)+1+1+1:=by omega
   have e2:(i+1)*3+2=(i*3+2)+1+1+1:=by omega
   have ee:edges (e::r)=.int .i64 e.f::.int .i64 e.t::.int .i64 e.c::edges r:=rfl
   rw [e2,e1,e0,ee]
   simp only [List.getD_cons_succ]
   exact ⟨h1,h2,h3⟩
theorem xZ (l:List Edge) (i:Nat) (x:Int):(edges l).set (i*3) (.int .i64 x)=edges (l.set i ⟨x,(l.getD i default).t,(l.getD i default).c⟩):=by
 induction l generalizing i with
 | nil=>rfl
 | cons e r ih =>
  cases i with
  | zero=>rfl
  | succ i =>
   have e0:(i+1)*3=i*3+1+1+1:=by omega
   have ee:∀q:List Edge,edges (e::q)=.int .i64 e.f::.int .i64 e.t::.int .i64 e.c::edges q:=fun _=>rfl
   rw [e0,ee]
   simp only [List.set_cons_succ,List.getD_cons_succ,ih,ee]
theorem Ec (l:List Edge) (i:Nat) (x:Int):(edges l).set (i*3+0) (.int .i64 x)=edges (l.set i ⟨x,(l.getD i default).t,(l.getD i default).c⟩):=xZ l i x
theorem E8 (l:List Edge) (i:Nat) (x:Int):(edges l).set (i*3+1) (.int .i64 x)=edges (l.set i ⟨(l.getD i default).f,x,(l.getD i default).c⟩):=by
 induction l generalizing i with
 | nil=>rfl
 | cons e r ih =>
  cases i with
  | zero=>rfl
  | succ i =>
   have e0:(i+1)*3+1=(i*3+1)+1+1+1:=by omega
   have ee:∀q:List Edge,edges (e::q)=.int .i64 e.f::.int .i64 e.t::.int .i64 e.c::edges q:=fun _=>rfl
   rw [e0,ee]
   simp only [List.set_cons_succ,List.getD_cons_succ,ih,ee]
theorem GH (l:List Edge) (i:Nat) (x:Int):(edges l).set (i*3+2) (.int .i64 x)=edges (l.set i ⟨(l.getD i default).f,(l.getD i default).t,x⟩):=by
 induction l generalizing i with
 | nil=>rfl
 | cons e r ih =>
  cases i with
  | zero=>rfl
  | succ i =>
   have e0:(i+1)*3+2=(i*3+2)+1+1+1:=by omega
   have ee:∀q:List Edge,edges (e::q)=.int .i64 e.f::.int .i64 e.t::.int .i64 e.c::edges q:=fun _=>rfl
   rw [e0,ee]
   simp only [List.set_cons_succ,List.getD_cons_succ,ih,ee]
theorem FZ (l:List Edge) {i:Nat} (h:i<l.length):(edges l).getD (i*3) .dead=.int .i64 (l.getD i default).f:=(vG l h).1
theorem FK (l:List Edge) {i:Nat} (h:i<l.length):(edges l).getD (i*3+1) .dead=.int .i64 (l.getD i default).t:=(vG l h).2.1
theorem FY (l:List Edge) {i:Nat} (h:i<l.length):(edges l).getD (i*3+2) .dead=.int .i64 (l.getD i default).c:=(vG l h).2.2
attribute [go_sem] HL.ints_get HL.bools_get FZ FK FY List.getD_cons_zero List.getD_cons_succ Jl OM fF dJ eG win_cons List.drop_zero List.drop_succ_cons List.take_zero List.take_succ_cons List.length_cons List.length_nil and_true true_and and_self and_false false_and if_true if_false Nat.mul_one Nat.zero_mul Nat.zero_add Nat.add_zero Nat.mul_zero HL.ints_len HL.bools_len zL List.length_set HL.ints_cell HL.bools_cell FT o8 rq cellV HL.ints_flat HL.bools_flat kF BU Eu iC Bool.and_true Bool.and_self Int.toNat_natCast Int.sub_zero Int.toNat_zero HL.ints_snoc HL.bools_snoc Gg HL.ints_app HL.bools_app Jw List.nil_append List.append_nil List.cons_append setFrom HL.ints_set HL.bools_set xZ Ec E8 GH List.set_cons_zero List.set_cons_succ fE bg dD bC cellsOf List.flatMap_cons List.flatMap_nil stride dQ Ob Dz IntWalk.i64_in Bool.not_true Bool.not_false Bool.false_eq_true beq_self_eq_true beq_true beq_false Bool.true_beq Bool.false_beq Bool.not_not
end Go.Proofs.Yteamkjblpglliaa
end
section
set_option linter.unusedSimpArgs false
set_option linter.unusedVariables false
namespace Go.Proofs.Yteamkjblpglliaa
theorem qX {α:Type} (l:List α) (i j:Nat) (x d:α) (h:i<l.length):(l.set i x).getD j d=if i=j then x else l.getD j d:=by
 simp only [List.getD,List.getElem?_set]
 by_cases hij:i=j
 ·subst hij;simp [h]
 ·simp [hij]
theorem cO {α:Type} (l:List α) (k:Nat) (d:α) (h:k<l.length):l.take (k+1)=l.take k++[l.getD k d]:=by
 rw [List.take_succ_eq_append_getElem h];simp [h]
theorem getD_mem {α:Type} (l:List α) (k:Nat) (d:α) (h:k<l.length):l.getD k d∈l:=by simp [h]
theorem Ef {α:Type} {l:List α} {x:α} (d:α) (h:x∈l):∃k,k<l.length/\l.getD k d=x:=by
 obtain ⟨k,hk,rfl⟩:=List.mem_iff_getElem.1 h
 exact ⟨k,hk,by simp [hk]⟩
structure Gr (nd:List (List Nat)) (bad:List Bool):Prop where
 size:nd.length<=256
 bads:bad.length=nd.length
 lt:∀i j,j∈nd.getD i []->j<nd.length
 sorted:∀i,(nd.getD i []).Pairwise (·<·)
theorem Gr.nodup {nd:List (List Nat)} {bad:List Bool} (g:Gr nd bad) (i:Nat):(nd.getD i []).Nodup:=(g.sorted i).imp fun h=>by omega
theorem Gr.len {nd:List (List Nat)} {bad:List Bool} (g:Gr nd bad) (i:Nat):(nd.getD i []).length<=nd.length:=by
 have h:∀ (l:List Nat) (b n:Nat),l.Pairwise (·<·)->(∀x∈l,b<=x/\x<n)->l.length<=n - b:=by
  intro l
  induction l with
  | nil=>intro b n _ _;simp
  | cons a l ih =>
   intro b n hp hl
   obtain ⟨h1,h2⟩:=List.pairwise_cons.1 hp
   have ha:=hl a (by simp)
   have:=ih (a+1) n h2 fun x hx=>⟨h1 x hx,(hl x (by simp [hx])).2⟩
   simp only [List.length_cons];omega
 exact h _ 0 _ (g.sorted i) fun x hx=>⟨by omega,g.lt i x hx⟩
def cnt (nd:List (List Nat)) (D:List Nat) (u:Nat):Nat:=((nd.getD u []).filter fun j=>decide (j ∉ D)).length
theorem zD {l:List Nat} (h:l.Nodup) (i:Nat):(l.filter fun j=>decide (j≠i)).length+(if i∈l then 1 else 0)=l.length:=by
 induction l with
 | nil=>simp
 | cons a l ih =>
  obtain ⟨h1,h2⟩:=List.nodup_cons.1 h
  have:=ih h2
  by_cases ha:a=i
  ·subst ha
   rw [if_neg h1] at this
   simp at this ⊢
   omega
  ·have hia:¬ i=a:=fun e=>ha e.symm
   simp only [List.filter_cons,decide_eq_true_eq,ha,ne_eq,not_false_eq_true,if_true,List.length_cons,List.mem_cons,hia,false_or]
   simp only [ne_eq] at this
   omega
theorem NH {nd:List (List Nat)} {bad:List Bool} (g:Gr nd bad) (D:List Nat) {i:Nat} (hi:i ∉ D) (u:Nat):cnt nd (D++[i]) u+(if i∈nd.getD u [] then 1 else 0)=cnt nd D u:=by
 unfold cnt
 have h1:((nd.getD u []).filter fun j=>decide (j ∉ D++[i]))=((nd.getD u []).filter fun j=>decide (j ∉ D)).filter fun j=>decide (j≠i):=by
  rw [List.filter_filter]
  apply List.filter_congr
  intro x _
  simp [List.mem_append,not_or,Bool.and_comm]
 have h2:=zD ((g.nodup u).filter fun j=>decide (j ∉ D)) i
 rw [h1,<- h2]
 congr 1
 simp [List.mem_filter,hi]
theorem cnt_zero {nd:List (List Nat)} {D:List Nat} {u:Nat}:cnt nd D u=0 <-> ∀j∈nd.getD u [],j∈D:=by
 unfold cnt
 rw [List.length_eq_zero_iff,List.filter_eq_nil_iff]
 constructor
 ·intro h j hj;simpa using h j hj
 ·intro h j hj;simpa using h j hj
def lN (nd:List (List Nat)) (i j:Nat):List Nat:=(List.range i).filter fun u=>decide (j∈nd.getD u [])
def kV (nd:List (List Nat)) (i k j:Nat):List Nat:=lN nd i j++if j∈(nd.getD i []).take k then [i] else []
def iK (nd:List (List Nat)) (i k:Nat):List (List Nat):=(List.range nd.length).map (kV nd i k)
theorem tH (nd:List (List Nat)) (i k:Nat):(iK nd i k).length=nd.length:=by simp [iK]
theorem xN (nd:List (List Nat)) (i k:Nat) {j:Nat} (h:j<nd.length):(iK nd i k).getD j []=kV nd i k j:=by simp [iK,h]
theorem F9 {nd:List (List Nat)} {bad:List Bool} (g:Gr nd bad) (i k:Nat) (h:k<(nd.getD i []).length) :
  (iK nd i k).set ((nd.getD i []).getD k 0) (kV nd i k ((nd.getD i []).getD k 0)++[i])=iK nd i (k+1):=by
 have hm:=getD_mem (nd.getD i []) k 0 h
 have hlt:=g.lt i _ hm
 have hnt:(nd.getD i []).getD k 0 ∉ (nd.getD i []).take k:=by
  have h1:=g.nodup i
  rw [<- List.take_append_drop (k+1) (nd.getD i []),cO _ _ 0 h] at h1
  have h2:=(List.nodup_append.1 (List.nodup_append.1 h1).1).2.2
  intro h3
  exact h2 _ h3 _ (by simp) rfl
 apply List.ext_getElem
 ·simp [iK]
 ·intro j h1 h2
  rw [List.getElem_set]
  simp only [iK,List.getElem_map,List.getElem_range]
  have ht:=cO (nd.getD i []) k 0 h
  by_cases hj:(nd.getD i []).getD k 0=j
  ·subst hj
   rw [if_pos rfl]
   unfold kV
   rw [if_neg hnt,ht,if_pos (by simp)]
   simp
  ·rw [if_neg hj]
   unfold kV
   rw [ht]
   congr 1
   simp only [List.mem_append,List.mem_singleton]
   have:¬ j=(nd.getD i []).getD k 0:=fun e=>hj e.symm
   simp only [this,or_false]
theorem FI {nd:List (List Nat)} (i:Nat):iK nd i (nd.getD i []).length=iK nd (i+1) 0:=by
 unfold iK
 apply List.map_congr_left
 intro j _
 unfold kV lN
 simp only [List.take_length,List.take_zero,List.not_mem_nil,if_false,List.append_nil]
 rw [List.range_succ,List.filter_append]
 congr 1
 by_cases h:j∈nd.getD i []
 ·simp only [List.filter_cons,List.filter_nil,h,decide_true,if_true]
 ·simp only [List.filter_cons,List.filter_nil,h,decide_false,if_false,Bool.false_eq_true]
theorem Dc (nd:List (List Nat)) (i k j:Nat):(kV nd i k j).length<=i+1:=by
 unfold kV lN
 have:=List.length_filter_le (fun u=>decide (j∈nd.getD u [])) (List.range i)
 rw [List.length_append]
 simp at this ⊢
 split<;>simp<;>omega
def iH (nd:List (List Nat)) (j:Nat):List Nat:=lN nd nd.length j
theorem usersOf_mem {nd:List (List Nat)} {j u:Nat}:u∈iH nd j <-> u<nd.length/\j∈nd.getD u []:=by simp [iH,lN]
theorem yT (nd:List (List Nat)) (j:Nat):(iH nd j).Nodup:=List.nodup_range.filter _
def firstTo (nd:List (List Nat)) (bad:List Bool) (i:Nat):List Nat:=(List.range i).filter fun u=>decide (nd.getD u []=[]/\bad.getD u false=false)
theorem AZ (nd:List (List Nat)) (bad:List Bool) (i:Nat):firstTo nd bad (i+1)=firstTo nd bad i++if nd.getD i []=[]/\bad.getD i false=false then [i] else []:=by
 unfold firstTo
 rw [List.range_succ,List.filter_append]
 congr 1
 by_cases h:nd.getD i []=[]/\bad.getD i false=false
 ·simp only [List.filter_cons,List.filter_nil,h,decide_true,if_true,and_self]
 ·simp only [List.filter_cons,List.filter_nil,h,decide_false,if_false,Bool.false_eq_true]
structure Rd (nd:List (List Nat)) (bad:List Bool) (r:Nat) (D now:List Nat) (rank left:List Int):Prop where
 lr:rank.length=nd.length
 ll:left.length=nd.length
 nodup:(D++now).Nodup
 lt:∀u∈D++now,u<nd.length
 left_:∀u,u<nd.length->left.getD u 0=(cnt nd D u:Int)
 out:∀u,u<nd.length->u ∉ D->rank.getD u 0 = -1
 in_:∀u∈D,0<=rank.getD u 0/\rank.getD u 0<r/\bad.getD u false=false/\(∀j∈nd.getD u [],j∈D/\rank.getD j 0<rank.getD u 0)/\(nd.getD u []=[]/\rank.getD u 0=0\/∃j∈nd.getD u [],rank.getD j 0=rank.getD u 0 - 1)
 now_:∀u,u∈now <-> u<nd.length/\u ∉ D/\bad.getD u false=false/\left.getD u 0=0
 new_:∀u∈now,(nd.getD u []=[]/\r=0)\/∃j∈nd.getD u [],j∈D/\rank.getD j 0=(r:Int) - 1
 few:r<=D.length
structure Md (nd:List (List Nat)) (bad:List Bool) (r:Nat) (D now:List Nat) (rank0:List Int) (k:Nat) (rank left:List Int) (next:List Nat):Prop where
 lr:rank.length=nd.length
 ll:left.length=nd.length
 rank_:∀u,rank.getD u 0=if u∈now.take k then (r:Int) else rank0.getD u 0
 left_:∀u,u<nd.length->left.getD u 0=(cnt nd (D++now.take k) u:Int)
 next_:∀u,u∈next <-> u<nd.length/\u ∉ D/\u ∉ now/\bad.getD u false=false/\left.getD u 0=0
 nodup:next.Nodup
structure Mi (nd:List (List Nat)) (bad:List Bool) (D now:List Nat) (k:Nat) (m:Nat) (left:List Int) (next:List Nat):Prop where
 ll:left.length=nd.length
 left_:∀u,u<nd.length->left.getD u 0=(cnt nd (D++now.take k) u:Int) - (if u∈(iH nd (now.getD k 0)).take m then 1 else 0)
 next_:∀u,u∈next <-> u<nd.length/\u ∉ D/\u ∉ now/\bad.getD u false=false/\left.getD u 0=0
 nodup:next.Nodup
theorem jY {l:List Nat} {n:Nat} (h:l.Nodup) (hl:∀u∈l,u<n):l.length<=n:=by
 induction n generalizing l with
 | zero =>
  cases l with
  | nil=>simp
  | cons a l=>exact absurd (hl a (by simp)) (by omega)
 | succ n ih =>
  have h1:=zD h n
  have h2:=ih (h.filter fun j=>decide (j≠n)) fun u hu=>by
   have:=hl u (List.mem_filter.1 hu).1
   have:=(List.mem_filter.1 hu).2
   simp at this
   omega
  split at h1<;>omega
section
variable {nd:List (List Nat)} {bad:List Bool} {r k m:Nat} {D now next:List Nat} {rank0 left0 rank left:List Int}
theorem Rd.size (s:Rd nd bad r D now rank left):D.length+now.length<=nd.length:=by
 rw [<- List.length_append];exact jY s.nodup s.lt
theorem Md.size (s:Md nd bad r D now rank0 k rank left next):next.length<=nd.length:=jY s.nodup fun u hu=>((s.next_ u).1 hu).1
theorem Mi.size (s:Mi nd bad D now k m left next):next.length<=nd.length:=jY s.nodup fun u hu=>((s.next_ u).1 hu).1
theorem Rd.first (g:Gr nd bad) (h1:rank.length=nd.length) (h2:left.length=nd.length) (h3:∀u,u<nd.length->rank.getD u 0 = -1) (h4:∀u,u<nd.length->left.getD u 0=((nd.getD u []).length:Int)):Rd nd bad 0 [] (firstTo nd bad nd.length) rank left:=by
 have hm:∀u,u∈firstTo nd bad nd.length <-> u<nd.length/\nd.getD u []=[]/\bad.getD u false=false:=fun u=>by simp [firstTo]
 refine ⟨h1,h2,?_,?_,?_,fun u hu _=>h3 u hu,by simp,?_,?_,by simp⟩
 ·rw [List.nil_append];exact List.nodup_range.filter _
 ·intro u hu;rw [List.nil_append] at hu;exact ((hm u).1 hu).1
 ·intro u hu
  have:(nd.getD u []).filter (fun j=>decide (j ∉ ([]:List Nat)))=nd.getD u []:=List.filter_eq_self.2 fun a _=>by simp
  rw [h4 u hu,cnt,this]
 ·intro u
  rw [hm]
  constructor
  ·rintro ⟨a,b,c⟩;exact ⟨a,by simp,c,by rw [h4 u a,b];rfl⟩
  ·rintro ⟨a,_,c,d⟩
   rw [h4 u a] at d
   exact ⟨a,List.eq_nil_of_length_eq_zero (by omega),c⟩
 ·intro u hu;exact .inl ⟨((hm u).1 hu).2.1,rfl⟩
theorem Md.first (s:Rd nd bad r D now rank left):Md nd bad r D now rank 0 rank left []:=by
 refine ⟨s.lr,s.ll,by simp,by simpa using s.left_,?_,by simp⟩
 intro u
 simp only [List.not_mem_nil,false_iff]
 rintro ⟨a,b,c,d,e⟩
 exact c ((s.now_ u).2 ⟨a,b,d,e⟩)
theorem Mi.step (g:Gr nd bad) (s0:Rd nd bad r D now rank0 left0) (s:Mi nd bad D now k m left next) (hk:k<now.length) (hm:m<(iH nd (now.getD k 0)).length) :
  (iH nd (now.getD k 0)).getD m 0<nd.length/\1<=left.getD ((iH nd (now.getD k 0)).getD m 0) 0/\left.getD ((iH nd (now.getD k 0)).getD m 0) 0<=256 /\
  Mi nd bad D now k (m+1) (left.set ((iH nd (now.getD k 0)).getD m 0) (left.getD ((iH nd (now.getD k 0)).getD m 0) 0 - 1))
   (if left.getD ((iH nd (now.getD k 0)).getD m 0) 0 - 1=0/\bad.getD ((iH nd (now.getD k 0)).getD m 0) false=false then next++[(iH nd (now.getD k 0)).getD m 0] else next):=by
 generalize hi:now.getD k 0=i at *
 generalize hu:(iH nd i).getD m 0=u at *
 have hun:u∈iH nd i:=by rw [<- hu];exact getD_mem _ _ _ hm
 obtain ⟨h1,h2⟩:=usersOf_mem.1 hun
 have hin:i∈now:=by rw [<- hi];exact getD_mem _ _ _ hk
 have hnk:i ∉ D++now.take k:=by
  have h3:=s0.nodup
  rw [<- List.take_append_drop (k+1) now,cO _ _ 0 hk,hi,<- List.append_assoc,<- List.append_assoc] at h3
  have h4:=(List.nodup_append.1 (List.nodup_append.1 h3).1).2.2
  intro h5
  exact h4 _ h5 _ (by simp) rfl
 have hnt:u ∉ (iH nd i).take m:=by
  have h3:=yT nd i
  rw [<- List.take_append_drop (m+1) (iH nd i),cO _ _ 0 hm,hu] at h3
  have h4:=(List.nodup_append.1 (List.nodup_append.1 h3).1).2.2
  intro h5
  exact h4 _ h5 _ (by simp) rfl
 have hl:=s.left_ u h1
 rw [hi] at hl
 rw [if_neg hnt] at hl
 have hpos:1<=cnt nd (D++now.take k) u:=by
  have:cnt nd (D++now.take k) u≠0:=fun h=>hnk (cnt_zero.1 h i h2)
  omega
 have hbig:cnt nd (D++now.take k) u<=256:=by
  have h3:cnt nd (D++now.take k) u<=(nd.getD u []).length:=List.length_filter_le _ _
  have h4:=g.len u
  have h5:=g.size
  omega
 have huD:u ∉ D:=fun h=>by
  have:=(s0.in_ u h).2.2.2.1 i h2
  exact hnk (by simp [this.1])
 have huN:u ∉ now:=fun h=>by
  have h3:=(s0.now_ u).1 h
  rw [s0.left_ u h3.1] at h3
  have h4:=cnt_zero.1 (show cnt nd D u=0 by omega) i h2
  exact hnk (by simp [h4])
 have hne:u ∉ next:=fun h=>by
  have:=((s.next_ u).1 h).2.2.2.2
  omega
 refine ⟨h1,by omega,by omega,⟨by simpa using s.ll,?_,?_,?_⟩⟩
 ·intro v hv
  rw [qX _ _ _ _ _ (by rw [s.ll];exact h1),hi,cO _ _ 0 hm,hu]
  have:=s.left_ v hv
  rw [hi] at this
  by_cases huv:u=v
  ·subst huv
   rw [if_pos rfl,if_pos (by simp)]
   omega
  ·have hvu:¬ v=u:=fun e=>huv e.symm
   rw [if_neg huv,this]
   simp [hvu]
 ·intro v
  rw [qX _ _ _ _ _ (by rw [s.ll];exact h1)]
  have hv:=s.next_ v
  by_cases huv:u=v
  ·subst huv
   rw [if_pos rfl]
   split
   ·rename_i hc
    simp only [List.mem_append,List.mem_singleton,or_true,true_iff]
    exact ⟨h1,huD,huN,hc.2,hc.1⟩
   ·rename_i hc
    simp only [hne,false_iff]
    rintro ⟨_,_,_,a,b⟩
    exact hc ⟨b,a⟩
  ·rw [if_neg huv,<- hv]
   have hvu:¬ v=u:=fun e=>huv e.symm
   split<;>simp [hvu]
 ·split
  ·rw [List.nodup_append]
   exact ⟨s.nodup,by simp,fun a ha b hb=>by simp at hb;subst hb;exact fun e=>hne (e▸ha)⟩
  ·exact s.nodup
theorem Md.step (g:Gr nd bad) (s0:Rd nd bad r D now rank0 left0) (s:Md nd bad r D now rank0 k rank left next) (hk:k<now.length) {left':List Int} {next':List Nat} (t:Mi nd bad D now k (iH nd (now.getD k 0)).length left' next') :
  Md nd bad r D now rank0 (k+1) (rank.set (now.getD k 0) r) left' next':=by
 have hin:now.getD k 0∈now:=getD_mem _ _ _ hk
 have hlt:now.getD k 0<nd.length:=s0.lt _ (by simp only [List.mem_append];exact .inr hin)
 have hnk:now.getD k 0 ∉ D++now.take k:=by
  have h3:=s0.nodup
  rw [<- List.take_append_drop (k+1) now,cO _ _ 0 hk,<- List.append_assoc,<- List.append_assoc] at h3
  have h4:=(List.nodup_append.1 (List.nodup_append.1 h3).1).2.2
  intro h5
  exact h4 _ h5 _ (by simp) rfl
 refine ⟨by simpa using s.lr,t.ll,?_,?_,t.next_,t.nodup⟩
 ·intro u
  rw [qX _ _ _ _ _ (by rw [s.lr];exact hlt),cO _ _ 0 hk,s.rank_ u]
  by_cases h:now.getD k 0=u
  ·subst h;rw [if_pos rfl,if_pos (by simp)]
  ·rw [if_neg h]
   have h':¬ u=now.getD k 0:=fun e=>h e.symm
   simp only [List.mem_append,List.mem_singleton,h',or_false]
 ·intro u hu
  rw [t.left_ u hu,List.take_length,cO _ _ 0 hk,<- List.append_assoc]
  have:=NH g (D++now.take k) hnk u
  simp only [usersOf_mem,hu,true_and]
  by_cases hx:now.getD k 0∈nd.getD u []
  ·rw [if_pos hx] at this ⊢;omega
  ·rw [if_neg hx] at this ⊢;omega
theorem Rd.step (g:Gr nd bad) (s0:Rd nd bad r D now rank0 left0) (hne:now≠[]) (s:Md nd bad r D now rank0 now.length rank left next):Rd nd bad (r+1) (D++now) next rank left:=by
 have hr:=s.rank_
 have hL:=s.left_
 rw [List.take_length] at hr hL
 have disj:∀u∈D,u ∉ now:=fun u hu h=>(List.nodup_append.1 s0.nodup).2.2 u hu u h rfl
 have rD:∀u∈D,rank.getD u 0=rank0.getD u 0:=fun u hu=>by rw [hr,if_neg (disj u hu)]
 have rN:∀u∈now,rank.getD u 0=r:=fun u hu=>by rw [hr,if_pos hu]
 have hall:∀u∈now,∀j∈nd.getD u [],j∈D:=fun u hu j hj=>by
  have h:=(s0.now_ u).1 hu
  rw [s0.left_ u h.1] at h
  exact cnt_zero.1 (show cnt nd D u=0 by omega) j hj
 refine ⟨s.lr,s.ll,?_,?_,hL,?_,?_,?_,?_,?_⟩
 ·rw [List.nodup_append]
  refine ⟨s0.nodup,s.nodup,fun a ha b hb e=>?_⟩
  subst e
  have:=(s.next_ a).1 hb
  rcases List.mem_append.1 ha with h|h
  ·exact this.2.1 h
  ·exact this.2.2.1 h
 ·intro u hu
  rcases List.mem_append.1 hu with h|h
  ·exact s0.lt u h
  ·exact ((s.next_ u).1 h).1
 ·intro u hu hn
  simp only [List.mem_append,not_or] at hn
  rw [hr,if_neg hn.2]
  exact s0.out u hu hn.1
 ·intro u hu
  rcases List.mem_append.1 hu with h|h
  ·obtain ⟨a,b,c,d,e⟩:=s0.in_ u h
   rw [rD u h]
   refine ⟨a,by omega,c,fun j hj=>?_,?_⟩
   ·obtain ⟨d1,d2⟩:=d j hj
    exact ⟨by simp [d1],by rw [rD j d1];exact d2⟩
   ·rcases e with e|⟨j,hj,e⟩
    ·exact .inl e
    ·exact .inr ⟨j,hj,by rw [rD j (d j hj).1];exact e⟩
  ·have hb:=((s0.now_ u).1 h).2.2.1
   rw [rN u h]
   refine ⟨by omega,by omega,hb,fun j hj=>?_,?_⟩
   ·have hj':=hall u h j hj
    have:=(s0.in_ j hj').2.1
    exact ⟨by simp [hj'],by rw [rD j hj'];exact this⟩
   ·rcases s0.new_ u h with ⟨e,rfl⟩|⟨j,hj,hjD,e⟩
    ·exact .inl ⟨e,rfl⟩
    ·exact .inr ⟨j,hj,by rw [rD j hjD];exact e⟩
 ·intro u
  rw [s.next_ u]
  simp only [List.mem_append,not_or,and_assoc]
 ·intro u hu
  right
  have h:=(s.next_ u).1 hu
  have h0:cnt nd (D++now) u=0:=by have:=hL u h.1;omega
  have h1:cnt nd D u≠0:=fun e=>h.2.2.1 ((s0.now_ u).2 ⟨h.1,h.2.1,h.2.2.2.1,by rw [s0.left_ u h.1,e];rfl⟩)
  have h2:∃j∈nd.getD u [],j ∉ D:=by
   apply Classical.byContradiction
   intro hno
   exact h1 (cnt_zero.2 fun j hj=>Classical.byContradiction fun hjd=>hno ⟨j,hj,hjd⟩)
  obtain ⟨j,hj,hjd⟩:=h2
  have hjn:j∈now:=by
   rcases List.mem_append.1 (cnt_zero.1 h0 j hj) with h|h
   ·exact absurd h hjd
   ·exact h
  exact ⟨j,hj,by simp [hjn],by rw [rN j hjn];omega⟩
 ·have h1:=s0.few
  have h2:0<now.length:=List.length_pos_iff.2 hne
  rw [List.length_append]
  omega
structure IsRank (nd:List (List Nat)) (bad:List Bool) (rank:List Int):Prop where
 len:rank.length=nd.length
 low:∀u,u<nd.length -> -1<=rank.getD u 0/\rank.getD u 0<nd.length
 in_:∀u,u<nd.length->0<=rank.getD u 0->bad.getD u false=false/\(∀j∈nd.getD u [],0<=rank.getD j 0/\rank.getD j 0<rank.getD u 0)/\(nd.getD u []=[]/\rank.getD u 0=0\/∃j∈nd.getD u [],rank.getD j 0=rank.getD u 0 - 1)
 out:∀u,u<nd.length->rank.getD u 0 = -1->bad.getD u false=true\/∃j∈nd.getD u [],rank.getD j 0 = -1
end
section
variable {nd:List (List Nat)} {bad:List Bool} {a b:List Int}
theorem IsRank.le (g:Gr nd bad) (ha:IsRank nd bad a) (hb:IsRank nd bad b):∀ (m:Nat) (u:Nat),u<nd.length->a.getD u 0=m->b.getD u 0=m:=by
 intro m
 induction m using Nat.strongRecOn with
 | _ m ih =>
  intro u hu e
  obtain ⟨h1,h2,h3⟩:=ha.in_ u hu (by omega)
  have same:∀j∈nd.getD u [],b.getD j 0=a.getD j 0:=fun j hj=>by
   obtain ⟨p,q⟩:=h2 j hj
   have:=ih (a.getD j 0).toNat (by omega) j (g.lt u j hj) (by omega)
   omega
  have hl:=(hb.low u hu).1
  have hpos:0<=b.getD u 0:=by
   apply Classical.byContradiction
   intro hn
   rcases hb.out u hu (by omega) with h|⟨j,hj,h⟩
   ·rw [h1] at h;cases h
   ·have:=same j hj
    have:=(h2 j hj).1
    omega
  obtain ⟨_,k2,k3⟩:=hb.in_ u hu hpos
  rcases h3 with ⟨h3,h4⟩|⟨j,hj,h3⟩
  ·rcases k3 with ⟨_,k4⟩|⟨j,hj,_⟩
   ·omega
   ·rw [h3] at hj;cases hj
  ·rcases k3 with ⟨k3,_⟩|⟨j',hj',k3⟩
   ·rw [k3] at hj;cases hj
   ·have p1:=same j hj
    have p2:=same j' hj'
    have p3:=(h2 j' hj').2
    have p4:=(k2 j hj).2
    omega
end
end Go.Proofs.Yteamkjblpglliaa
end
